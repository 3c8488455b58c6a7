/- Proofs of this claim, part 0. No condition. -/
import Derived.WalkKit
import Derived.Laws.BitsAllLaws
import Derived.Laws.BitsLemmas
import Derived.Lib.Hide
import Derived.Deep.Draws
import Derived.Test.YthdckndjggljpaaRows
import Derived.WalkSpells
import Derived.WalkLawsBesides
import Derived.Deep.Quiet
import Derived.Deep.QuietTactic
import Derived.BigQuiet
import Derived.Deep.RegionHeld3
import Derived.Deep.RegionWith
import Derived.Below
import Derived.Laws.OwnMore
import Derived.Laws.Rows
import Derived.Deep.OwnRows
import Derived.ProofKit
import Derived.OpenShut
import Derived.SizedLaws
namespace Go.Proofs.Ythdckndjggljpaa
set_option linter.unusedVariables false
set_option linter.unusedSimpArgs false
set_option maxRecDepth 100000
set_option maxHeartbeats 64000000
section
namespace W
def ok(w:Int):Prop:=w=8∨w=16∨w=32∨w=64
def md(w:Int):Int:=if w=8 then 256 else if w=16 then 65536 else if w=32 then 4294967296 else 18446744073709551616
theorem md8:md 8=256:=rfl
theorem Pn:md 16=65536:=rfl
theorem Q7:md 32=4294967296:=rfl
theorem QG:md 64=18446744073709551616:=rfl
theorem Dv(w:Int):0<md w:=by unfold md;split<;>(try split)<;>(try split)<;>omega
theorem uI(w:Int):md w≤18446744073709551616:=by unfold md;split<;>(try split)<;>(try split)<;>omega
theorem Wh(w:Int):md w∣18446744073709551616:=by
 unfold md;split<;>(try split)<;>(try split)<;>decide
theorem mod_mod(x w:Int):x%18446744073709551616%md w=x%md w:=Int.emod_emod_of_dvd x (Wh w)
theorem dZ(x w:Int):0≤x%md w:=Int.emod_nonneg _ (by have:=Dv w;omega)
theorem rQ(x w:Int):x%md w<md w:=Int.emod_lt_of_pos _ (Dv w)
theorem mod_le(x w:Int):x%md w<18446744073709551616:=by have:=rQ x w;have:=uI w;omega
theorem bY(x w:Int):IntKind.u64.wrap x%md w=x%md w:=by rw [IntKind.wrap_u64,mod_mod]
theorem I7(n:Int)(h₀:0≤n)(h₁:n<2^64):IntKind.u64.wrap n=n:=by rw [IntKind.wrap_u64];omega
theorem jg(i:Nat)(hi:i≤64)(x:Int)(h₀:0≤x)(h₁:x<18446744073709551616):bits .and .u64 x (2^i-1)=x%2^i:=
 bits_mask .u64 64 (by decide) I7 i hi x h₀ (by omega)
theorem Uj(x:Int)(h₀:0≤x)(h₁:x<18446744073709551616):bits .and .u64 x 255=x%md 8:=jg 8 (by decide) x h₀ h₁
theorem KE(x:Int)(h₀:0≤x)(h₁:x<18446744073709551616):bits .and .u64 x 65535=x%md 16:=jg 16 (by decide) x h₀ h₁
theorem X9(x:Int)(h₀:0≤x)(h₁:x<18446744073709551616):bits .and .u64 x 4294967295=x%md 32:=jg 32 (by decide) x h₀ h₁
theorem XJ(x:Int)(h₀:0≤x)(h₁:x<18446744073709551616):bits .and .u64 x 18446744073709551615=x%md 64:=jg 64 (by decide) x h₀ h₁
theorem Ph(x:Int):0≤IntKind.u64.wrap x:=by rw [IntKind.wrap_u64];omega
theorem Ru(x:Int):IntKind.u64.wrap x<18446744073709551616:=by rw [IntKind.wrap_u64];omega
theorem MP(a b w:Int):(a%md w+b%md w)%md w=(a+b)%md w:=by rw [←Int.add_emod]
theorem KW(a b w:Int):(a%md w-b%md w)%md w=(a-b)%md w:=by rw [←Int.sub_emod]
theorem Ny(a b w:Int):(a%md w*(b%md w))%md w=(a*b)%md w:=by rw [←Int.mul_emod]
def add(w a b:Int):Int:=(a+b)%md w
def sub(w a b:Int):Int:=(a-b)%md w
def mul(w a b:Int):Int:=(a*b)%md w
def cut(w a:Int):Int:=a%md w
def sg(w x:Int):Int:=if x%md w*2<md w then x%md w else x%md w-md w
theorem U0(w a b:Int):0≤add w a b:=dZ _ _
theorem U1(w a b:Int):add w a b<18446744073709551616:=mod_le _ _
theorem Uz(w a b:Int):0≤sub w a b:=dZ _ _
theorem TT(w a b:Int):sub w a b<18446744073709551616:=mod_le _ _
theorem U2(w a b:Int):0≤mul w a b:=dZ _ _
theorem UD(w a b:Int):mul w a b<18446744073709551616:=mod_le _ _
theorem Vt(w a:Int):0≤cut w a:=dZ _ _
theorem Vd(w a:Int):cut w a<18446744073709551616:=mod_le _ _
theorem yB(w x b:Int):add w (x%md w) b=add w x b:=by unfold add;rw [Int.emod_add_emod]
theorem yC(w a x:Int):add w a (x%md w)=add w a x:=by unfold add;rw [Int.add_emod_emod]
theorem I5(w x b:Int):mul w (x%md w) b=mul w x b:=by unfold mul;rw [Int.mul_emod,Int.emod_emod,←Int.mul_emod]
theorem yt(w a x:Int):mul w a (x%md w)=mul w a x:=by unfold mul;rw [Int.mul_emod,Int.emod_emod,←Int.mul_emod]
theorem Je(w x b:Int):sub w (x%md w) b=sub w x b:=by unfold sub;rw [Int.emod_sub_emod]
theorem Wv(w a x:Int):sub w a (x%md w)=sub w a x:=by unfold sub;rw [Int.sub_emod,Int.emod_emod,←Int.sub_emod]
theorem add_comm(w a b:Int):add w a b=add w b a:=by unfold add;rw [Int.add_comm]
theorem mul_comm(w a b:Int):mul w a b=mul w b a:=by unfold mul;rw [Int.mul_comm]
theorem add_assoc(w a b c:Int):add w (add w a b) c=add w a (add w b c):=by
 show add w ((a+b)%md w) c=add w a ((b+c)%md w)
 rw [yB,yC];unfold add;rw [Int.add_assoc]
theorem mul_assoc(w a b c:Int):mul w (mul w a b) c=mul w a (mul w b c):=by
 show mul w ((a*b)%md w) c=mul w a ((b*c)%md w)
 rw [I5,yt];unfold mul;rw [Int.mul_assoc]
theorem distrib(w a b c:Int):mul w a (add w b c)=add w (mul w a b) (mul w a c):=by
 show mul w a ((b+c)%md w)=add w ((a*b)%md w) ((a*c)%md w)
 rw [yt,yB,yC];unfold add mul;rw [Int.mul_add]
theorem back(w a b:Int):sub w (add w a b) b=cut w a:=by
 show sub w ((a+b)%md w) b=cut w a
 rw [Je];unfold sub cut;rw [Int.add_sub_cancel]
theorem ZY(w a:Int):cut w (cut w a)=cut w a:=by unfold cut;rw [Int.emod_emod]
theorem mul_one(w a:Int):mul w a 1=cut w a:=by unfold mul cut;rw [Int.mul_one]
theorem add_zero(w a:Int):add w a 0=cut w a:=by unfold add cut;rw [Int.add_zero]
theorem Hf(w v:Int)(hw:ok w)(hv:ok v)(h:w≤v):md w∣md v:=by
 rcases hw with rfl|rfl|rfl|rfl<;>rcases hv with rfl|rfl|rfl|rfl<;>first|(exfalso;omega)|decide
theorem narrow(w v x:Int)(hw:ok w)(hv:ok v)(h:w≤v):x%md v%md w=x%md w:=Int.emod_emod_of_dvd x (Hf w v hw hv h)
def U(a:Int):Prop:=0≤a∧a<18446744073709551616
def I(a:Int):Prop:=-9223372036854775808≤a∧a≤9223372036854775807
theorem acI(w a b:Int):U (add w a b):=⟨U0 _ _ _,U1 _ _ _⟩
theorem acB(w a b:Int):U (sub w a b):=⟨Uz _ _ _,TT _ _ _⟩
theorem acL(w a b:Int):U (mul w a b):=⟨U2 _ _ _,UD _ _ _⟩
theorem YK(w a:Int):U (cut w a):=⟨Vt _ _,Vd _ _⟩
theorem jT(a:Int):U (IntKind.u64.wrap a):=⟨Ph _,Ru _⟩
theorem XY{a:Int}(h:(Lit.int .u64 a).wf=true):U a:=by
 have hmin:IntKind.u64.min=0:=rfl
 have hmax:IntKind.u64.max=18446744073709551615:=rfl
 simp only [Lit.wf,Bool.and_eq_true,decide_eq_true_eq]at h
 exact⟨by omega,by omega⟩
theorem wX{a:Int}(h:(Lit.int .i64 a).wf=true):I a:=by
 have hmin:IntKind.i64.min=-9223372036854775808:=rfl
 have hmax:IntKind.i64.max=9223372036854775807:=rfl
 simp only [Lit.wf,Bool.and_eq_true,decide_eq_true_eq]at h
 exact⟨by omega,by omega⟩
def Msk(w m:Int):Prop:=∀x,U x→bits .and .u64 x m=x%md w
theorem LK:Msk 8 255:=fun x h=>Uj x h.1 h.2
theorem Ac:Msk 16 65535:=fun x h=>KE x h.1 h.2
theorem Bc:Msk 32 4294967295:=fun x h=>X9 x h.1 h.2
theorem Ba:Msk 64 18446744073709551615:=fun x h=>XJ x h.1 h.2
theorem qN{w m a b:Int}(hm:Msk w m)(ha:U a)(hb:U b):bits .and .u64 (IntKind.u64.wrap (bits .and .u64 a m+bits .and .u64 b m)) m=add w a b:=by
 rw [hm _ (jT _),hm a ha,hm b hb,bY,MP];rfl
theorem qH{w m a b:Int}(hm:Msk w m)(ha:U a)(hb:U b):bits .and .u64 (IntKind.u64.wrap (bits .and .u64 a m-bits .and .u64 b m)) m=sub w a b:=by
 rw [hm _ (jT _),hm a ha,hm b hb,bY,KW];rfl
theorem qU{w m a b:Int}(hm:Msk w m)(ha:U a)(hb:U b):bits .and .u64 (IntKind.u64.wrap (bits .and .u64 a m*bits .and .u64 b m)) m=mul w a b:=by
 rw [hm _ (jT _),hm a ha,hm b hb,bY,Ny];rfl
theorem Vh{u u':Value}(h:u=u'):Ending.returned u= .returned u':=by rw [h]
theorem kG{u v u' v':Value}(h:u=u')(k:v=v'):Ending.returned (.tuple #[u,v])= .returned (.tuple #[u',v']):=by rw [h,k]
theorem Nv{u v z u' v' z':Value}(h:u=u')(k:v=v')(l:z=z'):Ending.returned (.tuple #[u,v,z])= .returned (.tuple #[u',v',z']):=by rw [h,k,l]
theorem u64{a b:Int}(h:a=b):Value.int .u64 a= .int .u64 b:=by rw [h]
theorem i64{a b:Int}(h:a=b):Value.int .i64 a= .int .i64 b:=by rw [h]
theorem bool{a b:Bool}(h:a=b):Value.bool a= .bool b:=by rw [h]
end W
def W.okB(v:Int):Bool:=decide (v=8∨v=16∨v=32∨v=64)
theorem W.xP{v:Int}(h:W.ok v):W.okB v=true:=by unfold W.okB;simpa [W.ok]using h
theorem W.Gp{v:Int}(h:¬W.ok v):W.okB v=false:=by unfold W.okB;simpa [W.ok]using h
end
section
open Go.RowKit
namespace W
def mk(w:Int):Int:=md w-1
theorem mk8:mk 8=255:=rfl
theorem adQ:mk 16=65535:=rfl
theorem adF:mk 32=4294967295:=rfl
theorem aeb:mk 64=18446744073709551615:=rfl
theorem Lc(w:Int)(h:ok w):Msk w (mk w):=by
 rcases h with rfl|rfl|rfl|rfl
 ·exact LK
 ·exact Ac
 ·exact Bc
 ·exact Ba
theorem sg8(a:Int):wrap64 (IntKind.u64.wrap (a*72057594037927936))/72057594037927936=sg 8 a:=by
 rw [IntKind.wrap_u64];unfold sg wrap64;rw [md8];split<;>omega
theorem aa7(a:Int):wrap64 (IntKind.u64.wrap (a*281474976710656))/281474976710656=sg 16 a:=by
 rw [IntKind.wrap_u64];unfold sg wrap64;rw [Pn];split<;>omega
theorem aa8(a:Int):wrap64 (IntKind.u64.wrap (a*4294967296))/4294967296=sg 32 a:=by
 rw [IntKind.wrap_u64];unfold sg wrap64;rw [Q7];split<;>omega
theorem aa9(a:Int):wrap64 (IntKind.u64.wrap a)=sg 64 a:=by
 rw [IntKind.wrap_u64];unfold sg wrap64;rw [QG];split<;>omega
theorem abC(w a:Int):sg w a%md w=a%md w:=by
 unfold sg;split
 ·rw [Int.emod_emod]
 ·rw [Int.sub_emod,Int.emod_self,Int.sub_zero,Int.emod_emod,Int.emod_emod]
theorem abW(w a:Int):sg w (cut w a)=sg w a:=by unfold sg cut;rw [Int.emod_emod]
theorem adP(w a:Int):I (sg w a):=by
 have h1:=dZ a w;have h2:=rQ a w;have h3:=uI w
 unfold sg I;split<;>constructor<;>omega
def ng(w x:Int):Bool:=decide (md w≤x*2)
def mag(w x:Int):Int:=if md w≤x*2 then md w-x else x
theorem Uk(w x:Int)(h0:0≤x)(h1:x<md w):0≤mag w x:=by unfold mag;split<;>omega
theorem U7(w x:Int)(h0:0≤x)(h1:x<md w):mag w x<md w:=by unfold mag;split<;>omega
theorem QW(w x:Int)(h0:0≤x)(h1:x<md w)(h:x≠0):1≤mag w x:=by unfold mag;split<;>omega
theorem Gq(w a:Int)(h:ng w (a%md w)=true):sg w a=-mag w (a%md w):=by
 unfold ng at h;simp only [decide_eq_true_eq]at h
 unfold sg mag;rw [if_neg (by omega),if_pos h];omega
theorem F6(w a:Int)(h:ng w (a%md w)=false):sg w a=mag w (a%md w):=by
 unfold ng at h;simp only [decide_eq_false_iff_not]at h
 unfold sg mag;rw [if_pos (by omega),if_neg h]
def quo(w:Int)(s:Bool)(a b:Int):Int:=if s then(sg w a).tdiv (sg w b)%md w else a%md w/(b%md w)
def rem(w:Int)(s:Bool)(a b:Int):Int:=if s then(sg w a).tmod (sg w b)%md w else a%md w%(b%md w)
theorem zx{x y:Int}(h0:0≤x)(hy:0≤y):x/y≤x:=Int.ediv_le_self _ h0
theorem adx(w:Int)(s:Bool)(a b:Int):U (quo w s a b):=by
 unfold quo;split
 ·exact⟨dZ _ _,mod_le _ _⟩
 ·have h1:=dZ a w;have h2:=dZ b w;have h3:=mod_le a w
  have:=zx h1 h2
  exact⟨Int.ediv_nonneg h1 h2,by omega⟩
theorem acC(w:Int)(s:Bool)(a b:Int):U (rem w s a b):=by
 unfold rem;split
 ·exact⟨dZ _ _,mod_le _ _⟩
 ·have h1:=dZ a w;have h2:=dZ b w;have h3:=mod_le a w
  have hle:a%md w%(b%md w)≤a%md w:=by
   have e1:=Int.emod_add_mul_ediv (a%md w) (b%md w)
   have e2:=Int.mul_nonneg h2 (Int.ediv_nonneg h1 h2)
   omega
  by_cases hb:b%md w=0
  ·rw [hb,Int.emod_zero];exact⟨h1,h3⟩
  ·exact⟨Int.emod_nonneg _ hb,by omega⟩
theorem Ug(w a b X Y:Int)(hX:mag w (a%md w)=X)(hY:mag w (b%md w)=Y)(ha:ng w (a%md w)=false)(hb:ng w (b%md w)=false)(h0:0≤X)(h1:0≤Y):
 quo w true a b=X/Y%md w∧rem w true a b=X%Y%md w:=by
 unfold quo rem;rw [if_pos rfl,if_pos rfl,F6 w a ha,F6 w b hb,hX,hY,Int.tdiv_eq_ediv_of_nonneg h0,Int.tmod_eq_emod_of_nonneg h0];exact⟨rfl,rfl⟩
theorem U8(w a b X Y:Int)(hX:mag w (a%md w)=X)(hY:mag w (b%md w)=Y)(ha:ng w (a%md w)=false)(hb:ng w (b%md w)=true)(h0:0≤X)(h1:0≤Y):
 quo w true a b=(-(X/Y))%md w∧rem w true a b=X%Y%md w:=by
 unfold quo rem;rw [if_pos rfl,if_pos rfl,F6 w a ha,Gq w b hb,hX,hY,Int.tdiv_neg,Int.tmod_neg,Int.tdiv_eq_ediv_of_nonneg h0,Int.tmod_eq_emod_of_nonneg h0];exact⟨rfl,rfl⟩
theorem UL(w a b X Y:Int)(hX:mag w (a%md w)=X)(hY:mag w (b%md w)=Y)(ha:ng w (a%md w)=true)(hb:ng w (b%md w)=false)(h0:0≤X)(h1:0≤Y):
 quo w true a b=(-(X/Y))%md w∧rem w true a b=(-(X%Y))%md w:=by
 unfold quo rem;rw [if_pos rfl,if_pos rfl,Gq w a ha,F6 w b hb,hX,hY,Int.neg_tdiv,Int.neg_tmod,Int.tdiv_eq_ediv_of_nonneg h0,Int.tmod_eq_emod_of_nonneg h0];exact⟨rfl,rfl⟩
theorem U9(w a b X Y:Int)(hX:mag w (a%md w)=X)(hY:mag w (b%md w)=Y)(ha:ng w (a%md w)=true)(hb:ng w (b%md w)=true)(h0:0≤X)(h1:0≤Y):
 quo w true a b=X/Y%md w∧rem w true a b=(-(X%Y))%md w:=by
 unfold quo rem;rw [if_pos rfl,if_pos rfl,Gq w a ha,Gq w b hb,hX,hY,Int.tdiv_neg,Int.neg_tdiv,Int.neg_neg,Int.tmod_neg,Int.neg_tmod,Int.tdiv_eq_ediv_of_nonneg h0,Int.tmod_eq_emod_of_nonneg h0];exact⟨rfl,rfl⟩
def shl(w a n:Int):Int:=(a*2^min n.toNat 64)%md w
def shr(w:Int)(s:Bool)(a n:Int):Int:=if s then(sg w a/2^min n.toNat 64)%md w else a%md w/2^min n.toNat 64
theorem adn(w a n:Int):U (shl w a n):=⟨dZ _ _,mod_le _ _⟩
theorem pow_pos(k:Nat):(0:Int)<2^k:=Int.pow_pos (by decide)
theorem adw(w:Int)(s:Bool)(a n:Int):U (shr w s a n):=by
 unfold shr;split
 ·exact⟨dZ _ _,mod_le _ _⟩
 ·have h1:=dZ a w;have h3:=mod_le a w;have hp:=pow_pos (min n.toNat 64)
  have:=zx h1 (Int.le_of_lt hp)
  exact⟨Int.ediv_nonneg h1 (Int.le_of_lt hp),by omega⟩
theorem OC{w m a:Int}(n:Nat)(hm:Msk w m)(ha:U a):bits .and .u64 (IntKind.u64.wrap (bits .and .u64 a m*2^min n 64)) m=(a*2^min n 64)%md w:=by
 rw [hm _ (jT _),hm a ha,bY,Int.mul_emod,Int.emod_emod,←Int.mul_emod]
def less(w:Int)(s:Bool)(a b:Int):Bool:=if s then decide (sg w a<sg w b)else decide (a%md w<b%md w)
end W
end
section
open Go.RowKit
namespace W
theorem Ro(n:Int):bits .and .i64 n 65535=n%65536:=by
 have h:(BitVec.ofInt 64 n&&&BitVec.ofInt 64 65535).toNat=(BitVec.ofInt 64 n).toNat%65536:=by
  rw [BitVec.toNat_and,show(BitVec.ofInt 64 65535).toNat=2^16-1 from rfl,Nat.and_two_pow_sub_one_eq_mod]
 show IntKind.i64.wrap ((BitVec.ofInt 64 n&&&BitVec.ofInt 64 65535).toNat:Int)=_
 rw [h,BitVec.toNat_ofInt,IntKind.wrap_i64]
 have e:((n%((2^64:Nat):Int)).toNat:Int)=n%18446744073709551616:=by
  rw [Int.toNat_of_nonneg (Int.emod_nonneg _ (by decide))];rfl
 omega
def view(x:Int):Int:=if 32768≤x then x-65536 else x
def cy(c:Bool):Int:=if c then 1 else 0
def sR(a b:Int)(c:Bool):Int:=(a%65536+b%65536+cy c)%65536
def sC(a b:Int)(c:Bool):Bool:=decide (65536≤a%65536+b%65536+cy c)
def sV(a b:Int)(c:Bool):Bool:=decide (view (sR a b c)≠view (a%65536)+view (b%65536)+cy c)
def dR(a b:Int)(c:Bool):Int:=(a%65536-b%65536-cy c)%65536
def dC(a b:Int)(c:Bool):Bool:=decide (a%65536-b%65536-cy c<0)
def dV(a b:Int)(c:Bool):Bool:=decide (view (dR a b c)≠view (a%65536)-view (b%65536)-cy c)
def fZ(r:Int):Bool:=decide (r=0)
def fN(r:Int):Bool:=decide (32768≤r)
theorem SY(c:Bool):0≤cy c∧cy c≤1:=by cases c<;>decide
theorem SX(a b:Int)(c:Bool):0≤sR a b c∧sR a b c<65536:=by unfold sR;omega
theorem adl(a b:Int)(c:Bool):0≤dR a b c∧dR a b c<65536:=by unfold dR;omega
theorem uo(k:Nat)(h:k<65536)(x y:Nat)(hx:x<65536)(hy:y<65536):bits .and .i64 (x:Int) (y:Int)=((x&&&y:Nat):Int)∧bits .xor .i64 (x:Int) (y:Int)=((x^^^y:Nat):Int):=by
 have ex:(BitVec.ofInt 64 (x:Int)).toNat=x:=by rw [BitVec.ofInt_natCast,BitVec.toNat_ofNat];omega
 have ey:(BitVec.ofInt 64 (y:Int)).toNat=y:=by rw [BitVec.ofInt_natCast,BitVec.toNat_ofNat];omega
 have ha:x&&&y<2^16:=Nat.and_lt_two_pow _ (by omega)
 have hb:x^^^y<2^16:=Nat.xor_lt_two_pow (by omega) (by omega)
 constructor
 ·show IntKind.i64.wrap ((BitVec.ofInt 64 (x:Int)&&&BitVec.ofInt 64 (y:Int)).toNat:Int)=_
  rw [BitVec.toNat_and,ex,ey,IntKind.wrap_i64];omega
 ·show IntKind.i64.wrap ((BitVec.ofInt 64 (x:Int)^^^BitVec.ofInt 64 (y:Int)).toNat:Int)=_
  rw [BitVec.toNat_xor,ex,ey,IntKind.wrap_i64];omega
theorem yP(x:Nat)(h:x<65536):x.testBit 15=decide (32768≤x):=by
 rw [Nat.testBit_eq_decide_div_mod_eq,show(2:Nat)^15=32768 from rfl]
 by_cases hx:32768≤x
 ·simp only [hx,decide_true,decide_eq_true_eq];omega
 ·simp only [hx,decide_false,decide_eq_false_iff_not];omega
theorem PI(x:Nat)(h:x<65536):(x&&&32768≠0)↔x.testBit 15=true:=by
 have e:x&&&32768=x/2^15%2*2^15:=nat_bit 15 x
 rw [e,Nat.testBit_eq_decide_div_mod_eq]
 simp only [decide_eq_true_eq]
 omega
theorem La(A B R:Nat)(hA:A<65536)(hB:B<65536)(hR:R<65536):
 (((A^^^R)&&&(B^^^R))&&&32768≠0)↔(decide (32768≤A)=decide (32768≤B)∧decide (32768≤A)≠decide (32768≤R)):=by
 have h1:A^^^R<2^16:=Nat.xor_lt_two_pow (by omega) (by omega)
 have h2:(A^^^R)&&&(B^^^R)<2^16:=Nat.lt_of_le_of_lt Nat.and_le_left h1
 rw [PI _ (by omega),Nat.testBit_and,Nat.testBit_xor,Nat.testBit_xor,yP A hA,yP B hB,yP R hR]
 cases decide (32768≤A)<;>cases decide (32768≤B)<;>cases decide (32768≤R)<;>simp
theorem Nb(A B R:Int)(hA:0≤A∧A<65536)(hB:0≤B∧B<65536)(hR:0≤R∧R<65536):
 (bits .and .i64 (bits .and .i64 (bits .xor .i64 A R) (bits .xor .i64 B R)) 32768 !=0)=decide ((32768≤A↔32768≤B)∧¬(32768≤A↔32768≤R)):=by
 obtain⟨a,rfl⟩:=Int.eq_ofNat_of_zero_le hA.1
 obtain⟨b,rfl⟩:=Int.eq_ofNat_of_zero_le hB.1
 obtain⟨r,rfl⟩:=Int.eq_ofNat_of_zero_le hR.1
 have ha:a<65536:=by omega
 have hb:b<65536:=by omega
 have hr:r<65536:=by omega
 have h1:a^^^r<2^16:=Nat.xor_lt_two_pow (by omega) (by omega)
 have h1':b^^^r<2^16:=Nat.xor_lt_two_pow (by omega) (by omega)
 have h2:(a^^^r)&&&(b^^^r)<2^16:=Nat.lt_of_le_of_lt Nat.and_le_left h1
 rw [(uo 0 (by omega) a r ha hr).2,(uo 0 (by omega) b r hb hr).2,(uo 0 (by omega) _ _ (by omega) (by omega)).1,
  show(32768:Int)=((32768:Nat):Int)from rfl,(uo 0 (by omega) _ _ (by omega) (by omega)).1]
 have h:=La a b r ha hb hr
 rw [Bool.eq_iff_iff,decide_eq_true_eq,bne_iff_ne]
 constructor
 ·intro k
  have:=h.1 (by omega)
  simp only [ne_eq,decide_eq_decide]at this
  constructor<;>omega
 ·intro k
  have:=h.2 (by simp only [ne_eq,decide_eq_decide];omega)
  omega
theorem ZB(x y:Int)(c:Bool):
 (bits .and .i64 (bits .and .i64 (bits .xor .i64 (x%65536) (sR x y c)) (bits .xor .i64 (y%65536) (sR x y c))) 32768 !=0)=sV x y c:=by
 rw [Nb _ _ _ (by omega) (by omega) (SX x y c)]
 have hc:=SY c
 unfold sV
 rw [decide_eq_decide]
 have hR:sR x y c=x%65536+y%65536+cy c∨sR x y c=x%65536+y%65536+cy c-65536:=by unfold sR;omega
 have hb:=SX x y c
 generalize sR x y c=R at*
 generalize cy c=k at*
 have h1:0≤x%65536∧x%65536<65536:=by omega
 have h2:0≤y%65536∧y%65536<65536:=by omega
 generalize x%65536=a at*
 generalize y%65536=b at*
 unfold view
 split<;>split<;>split<;>omega
theorem Yr(x y:Int)(c:Bool):sR x (-y-1) (!c)=dR x y c∧(!sC x (-y-1) (!c))=dC x y c∧sV x (-y-1) (!c)=dV x y c:=by
 have e:(-y-1)%65536=65535-y%65536:=by omega
 have hcy:cy (!c)=1-cy c:=by cases c<;>rfl
 have hc:=SY c
 have e1:sR x (-y-1) (!c)=dR x y c:=by unfold sR dR;rw [e,hcy];omega
 refine⟨e1,?_,?_⟩
 ·unfold sC dC;rw [e,hcy,←decide_not,decide_eq_decide];omega
 ·unfold sV dV;rw [e1,e,hcy,decide_eq_decide]
  have:view (65535-y%65536)=-1-view (y%65536):=by unfold view;split<;>split<;>omega
  rw [this]
  constructor<;>intro h k<;>apply h<;>omega
end W
end
section
open Go.RowKit
def Rd(w:World)(size:Nat)(v:Value)(n:Nat)(cs:List Value):Prop:=
 cs.length=n*size∧n≤maxLen∧∃a cap,v= .slice a n cap∧n≤cap∧(cs≠[]→∃b off,a=some ⟨b,off,none⟩∧∀j u,cs[j]?=some u→w.cell? ⟨b,off+j,none⟩=some u)
theorem Rd.below{w w':World}{size n:Nat}{v:Value}{cs:List Value}(h:Rd w size v n cs)(hb:Below w.heap.size w w'):Rd w' size v n cs:=by
 obtain⟨h1,h2,a,cap,hv,hc,hr⟩:=h
 refine⟨h1,h2,a,cap,hv,hc,fun hne=>?_⟩
 obtain⟨b,off,ha,hj⟩:=hr hne
 refine⟨b,off,ha,fun j u hu=>?_⟩
 have hcell:=hj j u hu
 have hlt:b<w.heap.size:=World.block_lt_of_cell? w ⟨b,off+j,none⟩ hcell
 rw [←hcell]
 exact Below.cell (w:=w) hb (p:=⟨b,off+j,none⟩) hlt
theorem Rd.Zg{w:World}{base e size n:Nat}{v:Value}{xs:List Value}(h:w.ownsRow base e size v n xs)(hn:n≤maxLen):Rd w size v n xs:=by
 obtain⟨hl,h2⟩:=h
 rcases h2 with⟨rfl,rfl⟩|⟨g,cap,cur,rfl,hb,hg,hc,hm,hsz,htake⟩
 ·refine⟨hl,Nat.zero_le _,none,0,rfl,Nat.le_refl _,fun hne=>?_⟩
  exfalso;apply hne;exact List.eq_nil_of_length_eq_zero (by omega)
 ·refine⟨hl,hn,some ⟨g,0,none⟩,cap,rfl,hc,fun hne=>⟨g,0,rfl,fun j u hu=>?_⟩⟩
  have hlt:j<xs.length:=by
   rcases Nat.lt_or_ge j xs.length with h'|h'
   ·exact h'
   ·rw [List.getElem?_eq_none h']at hu;cases hu
  have:cur.toList[j]?=some u:=by
   rw [←htake,List.getElem?_take]at hu
   split at hu
   ·exact hu
   ·cases hu
  simp only [World.cell?,hg,Nat.zero_add,Option.isSome_none,Bool.false_eq_true,if_false]
  rw [←Array.getElem?_toList];exact this
theorem Rd.nil(w:World)(size:Nat):Rd w size (.slice none 0 0) 0 []:=⟨by simp,Nat.zero_le _,none,0,rfl,Nat.le_refl _,fun h=>absurd rfl h⟩
theorem Rd.len{w:World}{size n:Nat}{v:Value}{cs:List Value}(h:Rd w size v n cs):∃a cap,v= .slice a n cap∧n≤cap:=by
 obtain⟨_,_,a,cap,hv,hc,_⟩:=h
 exact⟨a,cap,hv,hc⟩
theorem Rd.ints{w:World}{k:IntKind}{n:Nat}{v:Value}{xs:List Int}(h:Rd w 1 v n (xs.map (Value.int k))):
 xs.length=n∧n≤maxLen∧∃a cap,v= .slice a n cap∧n≤cap∧(0<n→∃b off,a=some ⟨b,off,none⟩∧∀j,j<n→w.cell? ⟨b,off+j,none⟩=some (.int k (xs.getD j 0))):=by
 obtain⟨h1,h2,a,cap,hv,hc,hr⟩:=h
 have hl:xs.length=n:=by simpa using h1
 refine⟨hl,h2,a,cap,hv,hc,fun hn=>?_⟩
 obtain⟨b,off,ha,hj⟩:=hr (by intro e;rw [List.map_eq_nil_iff]at e;subst e;simp at hl;omega)
 refine⟨b,off,ha,fun j hj'=>hj j _ ?_⟩
 have hj2:j<xs.length:=by omega
 simp [List.getElem?_map,List.getElem?_eq_getElem hj2,List.getD_eq_getElem?_getD]
theorem xG{W w1:World}(hb:Below W.heap.size W w1):(∀b o,b<W.heap.size→w1.cell? ⟨b,o,none⟩=W.cell? ⟨b,o,none⟩)∧(∀b o,b<W.heap.size→w1.frozen? ⟨b,o,none⟩=W.frozen? ⟨b,o,none⟩):=
 ⟨fun b o h=>hb.cell (p:=⟨b,o,none⟩) h,fun b o h=>hb.frozen (p:=⟨b,o,none⟩) h⟩
theorem Ext.alloc{w a:World}(h:Below w.heap.size w a)(o:Obj):Below w.heap.size w (a.alloc o):=h.alloc h.size o
theorem Ext.trans{w a b:World}(h:Below w.heap.size w a)(k:Below a.heap.size a b):Below w.heap.size w b:=Below.trans h (k.mono h.size)
theorem Ext.setCell{w a:World}(h:Below w.heap.size w a){p:Addr}(hp:w.heap.size≤p.block)(u:Value):Below w.heap.size w (a.setCell p u):=Below.setCell h hp u
theorem below_drewN{B:Nat}{a w:World}(h:Below B a w)(n:Nat):Below B a (w.drewN n):=by
 refine h.trans ⟨rfl,rfl,rfl,?_,?_⟩
 ·simp
 ·intro k _;simp
theorem Ext.drewN{w a:World}(h:Below w.heap.size w a)(n:Nat):Below w.heap.size w (a.drewN n):=below_drewN h n
end
section
open Go.RowKit
theorem DC{w w1:World}{o:Obj}(hb:Below (w.alloc o).heap.size (w.alloc o) w1):w.heap.size<w1.heap.size:=by
 have:=hb.size;simp at this;omega
theorem jZ{w w1:World}{cs:Array Value}{t:TypeId}(hb:Below (w.alloc (.cells cs t)).heap.size (w.alloc (.cells cs t)) w1)(o:Nat):w1.cell? ⟨w.heap.size,o,none⟩=cs[o]?:=by
 rw [(xG hb).1 _ _ (by simp)]
 simp only [World.cell?,heap_alloc_new w]
 rfl
theorem ku{w w1:World}{cs:Array Value}{t:TypeId}(hb:Below (w.alloc (.cells cs t)).heap.size (w.alloc (.cells cs t)) w1)(o:Nat):w1.frozen? ⟨w.heap.size,o,none⟩=false:=by
 rw [(xG hb).2 _ _ (by simp)]
 simp only [World.frozen?,heap_alloc_new w]
 simp
theorem own4{w w1:World}{a b c d:Value}{t:TypeId}(hb:Below (w.alloc (.cells #[a,b,c,d] t)).heap.size (w.alloc (.cells #[a,b,c,d] t)) w1):
 w.heap.size<w1.heap.size∧w1.cell? ⟨w.heap.size,0,none⟩=some a∧w1.cell? ⟨w.heap.size,1,none⟩=some b∧w1.cell? ⟨w.heap.size,2,none⟩=some c∧w1.cell? ⟨w.heap.size,3,none⟩=some d∧
 w1.frozen? ⟨w.heap.size,0,none⟩=false∧w1.frozen? ⟨w.heap.size,1,none⟩=false∧w1.frozen? ⟨w.heap.size,2,none⟩=false∧w1.frozen? ⟨w.heap.size,3,none⟩=false:=
 ⟨DC hb,jZ hb 0,jZ hb 1,jZ hb 2,jZ hb 3,ku hb 0,ku hb 1,ku hb 2,ku hb 3⟩
theorem aeG{w w1:World}{a:Value}{t:TypeId}(hb:Below (w.alloc (.cells #[a] t)).heap.size (w.alloc (.cells #[a] t)) w1):
 w.heap.size<w1.heap.size∧w1.cell? ⟨w.heap.size,0,none⟩=some a∧w1.frozen? ⟨w.heap.size,0,none⟩=false:=
 ⟨DC hb,jZ hb 0,ku hb 0⟩
theorem aeA{w w1:World}{a b:Value}{t:TypeId}(hb:Below (w.alloc (.cells #[a,b] t)).heap.size (w.alloc (.cells #[a,b] t)) w1):
 w.heap.size<w1.heap.size∧w1.cell? ⟨w.heap.size,0,none⟩=some a∧w1.cell? ⟨w.heap.size,1,none⟩=some b∧w1.frozen? ⟨w.heap.size,0,none⟩=false∧w1.frozen? ⟨w.heap.size,1,none⟩=false:=
 ⟨DC hb,jZ hb 0,jZ hb 1,ku hb 0,ku hb 1⟩
theorem Ext.drew{w a:World}(h:Below w.heap.size w a):Below w.heap.size w a.drew:=Below.drew h
theorem Zd{w:World}{b:Nat}(hb:b=w.heap.size)(x:Value)(e:TypeId):∀j u,[x][j]?=some u→(w.alloc (.cells #[x] e)).cell? ((⟨b,0,none⟩:Addr).add j)=some u:=by
 intro j u hj
 subst hb
 rcases j with _|j
 ·simp at hj;subst hj
  simp only [Addr.add,if_true,World.cell?,heap_alloc_new w]
  rfl
 ·simp at hj
theorem one_cell{x:Value}(h:x.oneCell'=true):∀u∈[x],u.oneCell'=true:=by
 intro u hu;simp at hu;subst hu;exact h
theorem Ext.y8{w a:World}(h:Below w.drew.heap.size w.drew a):Below w.heap.size w a:=⟨h.os,h.tape,h.output,h.size,h.block⟩
theorem Ext.Ze{w a:World}{n:Nat}(h:Below (w.drewN n).heap.size (w.drewN n) a):Below w.heap.size w a:=⟨h.os,h.tape,h.output,h.size,h.block⟩
end
section
open Go.RowKit
theorem jd(v:Int)(h:W.ok v)(w:World):Calls Try.prog 56 #[.int .i64 v] w fun e w'=>e= .returned (.bool true)∧w=w':=by
 rcases h with rfl|rfl|rfl|rfl
 all_goals
  go_enter Try.func56,Try.ntmps56
  go_wp2
  go_ret
  exact⟨rfl,rfl⟩
theorem iZ(v:Int)(h:¬W.ok v)(w:World):Calls Try.prog 56 #[.int .i64 v] w fun e w'=>e= .returned (.bool false)∧w=w':=by
 have h1:(v==8)=false:=by rw [beq_eq_false_iff_ne];intro e;exact h (.inl e)
 have h2:(v==16)=false:=by rw [beq_eq_false_iff_ne];intro e;exact h (.inr (.inl e))
 have h3:(v==32)=false:=by rw [beq_eq_false_iff_ne];intro e;exact h (.inr (.inr (.inl e)))
 have h4:(v==64)=false:=by rw [beq_eq_false_iff_ne];intro e;exact h (.inr (.inr (.inr e)))
 go_enter Try.func56,Try.ntmps56
 go_wp2
 go_ret
 exact⟨rfl,rfl⟩
theorem Vp(a b v:Int)(h:W.ok v)(ha:W.U a)(hb:W.U b)(w:World):Calls Try.prog 71 #[.int .u64 a, .int .u64 b, .int .i64 v] w fun e w'=>e= .returned (.tuple #[.int .u64 (W.add v a b), .int .i64 0])∧w=w':=by
 rcases h with rfl|rfl|rfl|rfl
 ·go_enter Try.func71,Try.ntmps71
  go_wp2
  go_ret2
  exact⟨W.kG (W.u64 (W.qN W.LK ha hb)) rfl,rfl⟩
 ·go_enter Try.func71,Try.ntmps71
  go_wp2
  go_ret2
  exact⟨W.kG (W.u64 (W.qN W.Ac ha hb)) rfl,rfl⟩
 ·go_enter Try.func71,Try.ntmps71
  go_wp2
  go_ret2
  exact⟨W.kG (W.u64 (W.qN W.Bc ha hb)) rfl,rfl⟩
 ·go_enter Try.func71,Try.ntmps71
  go_wp2
  go_ret2
  exact⟨W.kG (W.u64 (W.qN W.Ba ha hb)) rfl,rfl⟩
theorem KT(a b v:Int)(h:W.ok v)(ha:W.U a)(hb:W.U b)(w:World):Calls Try.prog 62 #[.int .u64 a, .int .u64 b, .int .i64 v] w fun e w'=>e= .returned (.tuple #[.int .u64 (W.sub v a b), .int .i64 0])∧w=w':=by
 rcases h with rfl|rfl|rfl|rfl
 ·go_enter Try.func62,Try.ntmps62
  go_wp2
  go_ret2
  exact⟨W.kG (W.u64 (W.qH W.LK ha hb)) rfl,rfl⟩
 ·go_enter Try.func62,Try.ntmps62
  go_wp2
  go_ret2
  exact⟨W.kG (W.u64 (W.qH W.Ac ha hb)) rfl,rfl⟩
 ·go_enter Try.func62,Try.ntmps62
  go_wp2
  go_ret2
  exact⟨W.kG (W.u64 (W.qH W.Bc ha hb)) rfl,rfl⟩
 ·go_enter Try.func62,Try.ntmps62
  go_wp2
  go_ret2
  exact⟨W.kG (W.u64 (W.qH W.Ba ha hb)) rfl,rfl⟩
theorem Vl(a b v:Int)(h:W.ok v)(ha:W.U a)(hb:W.U b)(w:World):Calls Try.prog 68 #[.int .u64 a, .int .u64 b, .int .i64 v] w fun e w'=>e= .returned (.tuple #[.int .u64 (W.mul v a b), .int .i64 0])∧w=w':=by
 rcases h with rfl|rfl|rfl|rfl
 ·go_enter Try.func68,Try.ntmps68
  go_wp2
  go_ret2
  exact⟨W.kG (W.u64 (W.qU W.LK ha hb)) rfl,rfl⟩
 ·go_enter Try.func68,Try.ntmps68
  go_wp2
  go_ret2
  exact⟨W.kG (W.u64 (W.qU W.Ac ha hb)) rfl,rfl⟩
 ·go_enter Try.func68,Try.ntmps68
  go_wp2
  go_ret2
  exact⟨W.kG (W.u64 (W.qU W.Bc ha hb)) rfl,rfl⟩
 ·go_enter Try.func68,Try.ntmps68
  go_wp2
  go_ret2
  exact⟨W.kG (W.u64 (W.qU W.Ba ha hb)) rfl,rfl⟩
theorem abU(a b v:Int)(h:¬W.ok v)(w:World):Calls Try.prog 71 #[.int .u64 a, .int .u64 b, .int .i64 v] w fun e w'=>e= .returned (.tuple #[.int .u64 0, .int .i64 1])∧w=w':=by
 go_enter Try.func71,Try.ntmps71
 go_wp2_with(first|(go_at_call 56;refine(iZ v h _).mono ?_;rintro e w'⟨rfl,rfl⟩)|go_in)
 go_ret2
 exact⟨rfl,rfl⟩
theorem aan(a b v:Int)(h:¬W.ok v)(w:World):Calls Try.prog 62 #[.int .u64 a, .int .u64 b, .int .i64 v] w fun e w'=>e= .returned (.tuple #[.int .u64 0, .int .i64 1])∧w=w':=by
 go_enter Try.func62,Try.ntmps62
 go_wp2_with(first|(go_at_call 56;refine(iZ v h _).mono ?_;rintro e w'⟨rfl,rfl⟩)|go_in)
 go_ret2
 exact⟨rfl,rfl⟩
theorem aa6(a b v:Int)(h:¬W.ok v)(w:World):Calls Try.prog 68 #[.int .u64 a, .int .u64 b, .int .i64 v] w fun e w'=>e= .returned (.tuple #[.int .u64 0, .int .i64 1])∧w=w':=by
 go_enter Try.func68,Try.ntmps68
 go_wp2_with(first|(go_at_call 56;refine(iZ v h _).mono ?_;rintro e w'⟨rfl,rfl⟩)|go_in)
 go_ret2
 exact⟨rfl,rfl⟩
theorem Es(a v:Int)(h:W.ok v)(ha:W.U a)(w:World):Calls Try.prog 60 #[.int .u64 a, .int .i64 v] w fun e w'=>e= .returned (.tuple #[.int .u64 (W.cut v a), .int .i64 0])∧w=w':=by
 rcases h with rfl|rfl|rfl|rfl
 ·go_enter Try.func60,Try.ntmps60
  go_wp2
  go_ret2
  exact⟨W.kG (W.u64 (W.LK a ha)) rfl,rfl⟩
 ·go_enter Try.func60,Try.ntmps60
  go_wp2
  go_ret2
  exact⟨W.kG (W.u64 (W.Ac a ha)) rfl,rfl⟩
 ·go_enter Try.func60,Try.ntmps60
  go_wp2
  go_ret2
  exact⟨W.kG (W.u64 (W.Bc a ha)) rfl,rfl⟩
 ·go_enter Try.func60,Try.ntmps60
  go_wp2
  go_ret2
  exact⟨W.kG (W.u64 (W.Ba a ha)) rfl,rfl⟩
theorem abj(a v:Int)(h:¬W.ok v)(w:World):Calls Try.prog 60 #[.int .u64 a, .int .i64 v] w fun e w'=>e= .returned (.tuple #[.int .u64 0, .int .i64 1])∧w=w':=by
 go_enter Try.func60,Try.ntmps60
 go_wp2_with(first|(go_at_call 56;refine(iZ v h _).mono ?_;rintro e w'⟨rfl,rfl⟩)|go_in)
 go_ret2
 exact⟨rfl,rfl⟩
end
section
open Go
namespace Rg
def kd(o:Oper):Nat:=match o.op with
 | .move _| .assign _| .extract .. =>0
 | .pick .. | .load .. | .binOp .. | .unOp .. | .fieldAddr .. | .indexAddr .. | .nilCheck .. | .field .. | .index .. | .convert .. | .slice .. | .build .. | .makeInterface .. | .lookup .. =>1
 | .call {callee:= .builtin .len, .. }| .call {callee:= .builtin .cap, .. }| .call {callee:= .builtin .max, .. }| .call {callee:= .builtin .min, .. }=>1
 |_=>2
def kx(ws:List Nat)(i:Nat)(o:Oper):Nat:=if ws.contains i then 2 else kd o
def compat(x y:Nat):Bool:=x==0||y==0||(x==1&&y==1)
def dep(md:Region.Mode)(ops:Array Oper)(i:Nat):Array Bool:=
 ops.foldl (init:=#[]) fun acc o=>acc.push (o.after.any fun e=>Region.binds md e&&(e.on==i||acc.getD e.on false))
def L8(md:Region.Mode)(ops:Array Oper)(ws:List Nat)(listed:Array Bool)(i:Nat):Bool:=
 match ops[i]? with
 |none=>false
 |some oi=>(List.range ops.size).all fun j=>match ops[j]? with
  |none=>true
  |some oj=>if j==i then true
   else if(dep md ops i).getD j false then(listed.getD j true==false)&&oj.after.any (fun e=>Region.binds md e&&(e.on==i||((dep md ops i).getD e.on false&&e.on !=i&&decide (e.on<ops.size))))
   else listed.getD j true||(oi.apart ops oj&&compat (kx ws i oi) (kx ws j oj))
def lexFrom(md:Region.Mode)(ops:Array Oper)(ws:List Nat):Nat→Nat→Array Bool→Bool
 |0,_,listed=>(Region.ready md ops listed).isEmpty
 |fuel+1,k,listed=>(Region.ready md ops listed).contains k&&L8 md ops ws listed k&&lexFrom md ops ws fuel (k+1) (listed.setIfInBounds k true)
def lexB(ops:Array Oper)(ws:List Nat):Bool:=Region.noSelect ops&&lexFrom .any ops ws ops.size 0 (Array.replicate ops.size false)
section
variable{P:Program}{ops:Array Oper}{md:Region.Mode}{ws:List Nat}{Q:Exit→Act→World→Prop}
def CG(P:Program)(ops:Array Oper)(ws:List Nat)(Q:Exit→Act→World→Prop)(i:Nat)(K:Act→World→Prop)(a:Act)(w:World):Prop:=
 match ops[i]? with
 |none=>K a w
 |some o=>if Region.wanted o (yielded ops a.tmps)then(if kx ws i o=2 then o.wp P a w K Q else o.quiet P a (fun u=>u=w) (fun a'=>K a' w))else K (a.put o.dst undef) w
def Dh(P:Program)(ops:Array Oper)(ws:List Nat)(Q:Exit→Act→World→Prop):Nat→List Oper→Act→World→Prop
 |_,[],a,w=>Q .normal a w
 |i,o::rest,a,w=>if Region.wanted o (yielded ops a.tmps)then(if kx ws i o=2 then o.wp P a w (Dh P ops ws Q (i+1) rest) Q else o.quiet P a (fun u=>u=w) (fun a'=>Dh P ops ws Q (i+1) rest a' w))else Dh P ops ws Q (i+1) rest (a.put o.dst undef) w
def wpAnyL(P:Program)(md:Region.Mode)(ops:Array Oper)(ws:List Nat)(Q:Exit→Act→World→Prop):Nat→Array Bool→Act→World→Prop
 |0,listed,a,w=>Region.ready md ops listed=[]∧Q .normal a w
 |fuel+1,listed,a,w=>(Region.ready md ops listed=[]→Q .normal a w)∧∀i∈Region.ready md ops listed,CG P ops ws Q i (wpAnyL P md ops ws Q fuel (listed.setIfInBounds i true)) a w
theorem jW:∀(fuel:Nat)(listed:Array Bool)(a:Act)(w:World),wpAnyL P md ops ws Q fuel listed a w→wpAny P md ops Q fuel listed a w
 |0,_,_,_,h=>h
 |fuel+1,listed,a,w,h=>⟨h.1,fun i hi=>by
  have h2:=h.2 i hi
  unfold CG at h2
  unfold wpOp
  split
  ·rename_i ho;simp only [ho]at h2;exact jW fuel _ _ _ h2
  ·rename_i o ho
   simp only [ho]at h2
   split
   ·rename_i hw
    simp only [hw,if_true]at h2
    split at h2
    ·exact .inl (Oper.wp_mono (fun a w hh=>jW fuel _ a w hh) h2)
    ·exact .inl (Oper.wp_of_quiet (C:=fun u=>u=w) rfl (fun a' w' hw' hh=>by subst hw';exact jW fuel _ _ _ hh) h2)
   ·rename_i hw
    simp only [hw]at h2
    exact jW fuel _ _ _ h2⟩
def wd(a:Act)(ds:List Deferred):Act:={a with defers:=ds}
theorem yY(a:Act)(ds:List Deferred)(x:Option Tmp)(v:Value):wd (a.put x v) ds=(wd a ds).put x v:=by cases x<;>rfl
theorem FH(a:Act)(ds:List Deferred):(wd a ds).eval=a.eval:=rfl
structure Shut(Q:Exit→Act→World→Prop):Prop where
 panic:∀c a w,¬Q (.panic c) a w
 out:¬LetsOut Q
theorem MC{o:Oper}{a:Act}{w:World}{K:Act→World→Prop}(hQ:Shut Q)(h:o.wp P a w K Q):∃ds v w1,K ((wd a ds).put o.dst v) w1:=by
 unfold Oper.wp at h
 generalize(execOp a.eval o).run P w=r at h
 cases r with
 |ok n w'=>
  cases n<;>simp only [Oper.upon]at h
  case value v=>exact⟨a.defers,v,w',h⟩
  case skip=>exact⟨a.defers,undef,w',h⟩
  case defer d=>exact⟨d::a.defers,undef,w',h⟩
  case enter f args=>
   obtain⟨e,w'',fr,hR,_⟩:=h []
   cases e with
   |returned v=>exact⟨a.defers,v,w'',hR⟩
   |panicked c=>exact absurd hR (hQ.panic _ _ _)
   |outgrown=>exact absurd hR hQ.out
  case row row args=>
   obtain⟨v,w'',hR,_⟩:=h {(default:Frame)with mode:=default} []
   exact⟨a.defers,v,w'',hR⟩
 |halt x w'=>cases x<;>simp only [Oper.upon]at h;exact absurd h (hQ.panic _ _ _)
theorem wp_map{o:Oper}{a a':Act}{w:World}{K K':Act→World→Prop}(hQ:Shut Q)(he:execOp a'.eval o=execOp a.eval o)(hd:a'.defers=a.defers)
 (hk:∀ds v w1,K ((wd a ds).put o.dst v) w1→K' ((wd a' ds).put o.dst v) w1)(h:o.wp P a w K Q):o.wp P a' w K' Q:=by
 unfold Oper.wp at h⊢
 rw [he]
 generalize(execOp a.eval o).run P w=r at h⊢
 have e0:wd a' a.defers=a':=by unfold wd;rw [←hd]
 cases r with
 |ok n w'=>
  cases n<;>simp only [Oper.upon]at h⊢
  case value v=>have:=hk a.defers v w' h;rwa [e0]at this
  case skip=>have:=hk a.defers undef w' h;rwa [e0]at this
  case defer d=>have:=hk (d::a.defers) undef w' h;rw [hd];exact this
  case enter f args=>
   refine h.mono fun e w'' hR=>?_
   cases e with
   |returned v=>have:=hk a.defers v w'' hR;rwa [e0]at this
   |panicked c=>exact absurd hR (hQ.panic _ _ _)
   |outgrown=>exact hR
  case row row args=>
   exact Rows.mono h fun v w'' hR=>by have:=hk a.defers v w'' hR;rwa [e0]at this
 |halt x w'=>
  cases x<;>simp only [Oper.upon]at h⊢
  exact absurd h (hQ.panic _ _ _)
theorem BF{o:Oper}(h:kd o=0)(a:Act):(∃v,∀w,(execOp a.eval o).run P w= .ok (.value v) w)∨(∀w n w',(execOp a.eval o).run P w≠ .ok n w'):=by
 obtain⟨dst,op,type,pos,after,guard⟩:=o
 cases op with
 |move x=>exact .inl ⟨a.eval x,fun w=>rfl⟩
 |assign x=>exact .inl ⟨a.eval x,fun w=>rfl⟩
 |extract x k=>
  show(∃v,∀w,(execOp a.eval ⟨dst, .extract x k,type,pos,after,guard⟩).run P w=_)∨_
  unfold execOp
  simp only []
  unfold Instr.extract
  generalize a.eval x=val
  cases val with
  |tuple vs=>
   cases hv:vs[k]? with
   |some v=>exact .inl ⟨v,fun w=>by simp [hv,go_sem]⟩
   |none=>exact .inr (fun w n w'=>by simp [hv,go_sem])
  |_=>exact .inr (fun w n w'=>by simp [go_sem])
 |call c=>
  exfalso
  unfold kd at h
  split at h<;>first|(cases h;done)|(rename_i hh;simp at hh)
 |_=>exact absurd h (by simp [kd])
def eP(P:Program)(ops:Array Oper)(Q:Exit→Act→World→Prop)(k:Nat)(o:Oper)(K:Act→World→Prop)(a:Act)(w:World):Prop:=
 if Region.wanted o (yielded ops a.tmps)then(if k=2 then o.wp P a w K Q else o.quiet P a (fun u=>u=w) (fun a'=>K a' w))else K (a.put o.dst undef) w
theorem lJ{i:Nat}{o:Oper}{K:Act→World→Prop}{a:Act}{w:World}(hi:ops[i]?=some o):CG P ops ws Q i K a w=eP P ops Q (kx ws i o) o K a w:=by
 unfold CG eP;simp only [hi]
theorem wI{k:Nat}{o:Oper}{K K':Act→World→Prop}{a:Act}{w:World}(h:∀a w,K a w→K' a w)(hs:eP P ops Q k o K a w):eP P ops Q k o K' a w:=by
 unfold eP at*
 split
 ·rename_i hw;simp only [hw,if_true]at hs
  split
  ·rename_i hk;simp only [hk,if_true]at hs;exact Oper.wp_mono h hs
  ·rename_i hk;simp only [hk,if_false]at hs;exact Oper.quiet_mono (fun a' hh=>h a' w hh) hs
 ·rename_i hw;simp only [hw]at hs;exact h _ _ hs
theorem Jq{k:Nat}{o:Oper}{K:Act→World→Prop}{a:Act}{w:World}(hQ:Shut Q)(hs:eP P ops Q k o K a w):∃a' w',K a' w':=by
 unfold eP at hs
 split at hs
 ·split at hs
  ·obtain⟨ds,v,w1,h⟩:=MC hQ hs;exact⟨_,_,h⟩
  ·obtain⟨v,_,h⟩:=hs;exact⟨_,_,h⟩
 ·exact⟨_,_,hs⟩
theorem nV(o:Oper)(a:Act)(ds:List Deferred):Region.wanted o (yielded ops (wd a ds).tmps)=Region.wanted o (yielded ops a.tmps):=rfl
theorem sO{o:Oper}(h:kd o=0){a:Act}{w:World}{v:Value}(hq:o.quietAt P a (fun u=>u=w) w v):∀w',o.quietAt P a (fun u=>u=w') w' v:=by
 intro w'
 unfold Oper.quietAt at*
 rcases BF (P:=P) h a with⟨u,hu⟩|hn
 ·rw [hu]at hq⊢;exact⟨rfl,hq.2⟩
 ·exfalso
  cases hr:(execOp a.eval o).run P w with
  |ok n w1=>exact hn w n w1 hr
  |halt x w1=>rw [hr]at hq;exact hq
theorem swap{ki kj:Nat}{oi oj:Oper}{K K2:Act→World→Prop}(hQ:Shut Q)(hsi:∀cs b,oi.op≠ .select cs b)(hsj:∀cs b,oj.op≠ .select cs b)
 (hap:oi.apart ops oj=true)(hc:compat ki kj=true)(h0i:ki=0→kd oi=0)(h0j:kj=0→kd oj=0)
 {a:Act}{w:World}(h:eP P ops Q ki oi K a w)(hK:∀a' w',K a' w'→eP P ops Q kj oj K2 a' w'):
 eP P ops Q kj oj (fun a' w'=>eP P ops Q ki oi K2 a' w') a w:=by
 obtain⟨p1,p2,p3⟩:=Oper.apart_spec hap
 have ei:∀(a:Act)u,execOp (a.put oj.dst u).eval oi=execOp a.eval oi:=fun a u=>execOp_put oi hsi a oj.dst u p3
 have ej:∀(a:Act)u,execOp (a.put oi.dst u).eval oj=execOp a.eval oj:=fun a u=>execOp_put oj hsj a oi.dst u p1
 have wi:∀(a:Act)u,Region.wanted oi (yielded ops (a.put oj.dst u).tmps)=Region.wanted oi (yielded ops a.tmps):=fun a u=>wanted_put oi a oj.dst u p3
 have wj:∀(a:Act)u,Region.wanted oj (yielded ops (a.put oi.dst u).tmps)=Region.wanted oj (yielded ops a.tmps):=fun a u=>wanted_put oj a oi.dst u p1
 have cm:∀(a:Act)v u,(a.put oi.dst v).put oj.dst u=(a.put oj.dst u).put oi.dst v:=fun a v u=>Act.put_comm a v u p2
 by_cases hwi:Region.wanted oi (yielded ops a.tmps)=true
 ·by_cases hk:ki=2
  ·
   have hi':oi.wp P a w K Q:=by unfold eP at h;simpa only [hwi,hk,if_true]using h
   by_cases QT:Region.wanted oj (yielded ops a.tmps)=true
   ·have hkj:kj=0:=by
     subst hk
     simp only [compat,Bool.or_eq_true,Bool.and_eq_true,beq_iff_eq]at hc
     rcases hc with(hc|hc)|hc
     ·omega
     ·exact hc
     ·omega
    have hkd:=h0j hkj
    have each:∀ds v w1,K ((wd a ds).put oi.dst v) w1→∃u,(∀w',oj.quietAt P a (fun x=>x=w') w' u)∧K2 (((wd a ds).put oi.dst v).put oj.dst u) w1:=by
     intro ds v w1 hk1
     have h2:=hK _ _ hk1
     unfold eP at h2
     rw [wj,nV,QT]at h2
     simp only [if_true,hkj]at h2
     obtain⟨u,hu,hn⟩:=h2
     have hu1:=hu w1 rfl
     unfold Oper.quietAt at hu1
     rw [ej,FH]at hu1
     exact⟨u,sO hkd (w:=w1) hu1,hn⟩
    obtain⟨ds0,v0,w0,hk0⟩:=MC hQ hi'
    obtain⟨u,hu,_⟩:=each _ _ _ hk0
    unfold eP
    rw [QT]
    rw [if_pos rfl,if_neg (by omega)]
    refine⟨u,fun x hx=>by subst hx;exact hu x,?_⟩
    show(if Region.wanted oi (yielded ops (a.put oj.dst u).tmps)=true then _ else _)
    rw [wi,hwi,if_pos rfl,if_pos hk]
    refine wp_map hQ (ei a u) (by cases oj.dst<;>rfl) (fun ds v w1 hk1=>?_) hi'
    obtain⟨u',hu',hn⟩:=each _ _ _ hk1
    have heq:u'=u:=by
     rcases BF (P:=P) hkd a with⟨c,aa3⟩|hno
     ·have a1:=hu w1;have a2:=hu' w1
      unfold Oper.quietAt at a1 a2
      rw [aa3]at a1 a2
      rw [←a2.2,←a1.2]
     ·have a1:=hu w1
      unfold Oper.quietAt at a1
      cases hr:(execOp a.eval oj).run P w1 with
      |ok n w2=>exact absurd hr (hno _ _ _)
      |halt x w2=>rw [hr]at a1;exact a1.elim
    subst heq
    rw [yY,←cm];exact hn
   ·have IW:Region.wanted oj (yielded ops a.tmps)=false:=by simpa using QT
    unfold eP
    rw [IW]
    simp only [Bool.false_eq_true,if_false]
    rw [wi,hwi,if_pos rfl,if_pos hk]
    refine wp_map hQ (ei a undef) (by cases oj.dst<;>rfl) (fun ds v w1 hk1=>?_) hi'
    have h2:=hK _ _ hk1
    unfold eP at h2
    rw [wj,nV,IW]at h2
    simp only [Bool.false_eq_true,if_false]at h2
    rw [yY,←cm];exact h2
  ·
   have hi':oi.quiet P a (fun u=>u=w) (fun a'=>K a' w):=by unfold eP at h;simpa only [hwi,hk,if_true,if_false]using h
   obtain⟨v,hv,hn⟩:=hi'
   have h2:=hK _ _ hn
   have later:∀(a':Act)(w':World),execOp a'.eval oi=execOp a.eval oi→Region.wanted oi (yielded ops a'.tmps)=Region.wanted oi (yielded ops a.tmps)→(w'=w∨ki=0)→K2 (a'.put oi.dst v) w'→eP P ops Q ki oi K2 a' w':=by
    intro a' w' he zU hor hk2
    unfold eP
    rw [zU,hwi,if_pos rfl,if_neg hk]
    refine⟨v,fun x hx=>?_,hk2⟩
    subst hx
    have hb:oi.quietAt P a (fun u=>u=x) x v:=by
     rcases hor with rfl|h0
     ·exact hv _ rfl
     ·exact sO (h0i h0) (hv w rfl) x
    unfold Oper.quietAt at hb⊢
    rw [he];exact hb
   unfold eP at h2⊢
   rw [wj]at h2
   by_cases QT:Region.wanted oj (yielded ops a.tmps)=true
   ·rw [QT]at h2⊢
    simp only [if_true]at h2⊢
    by_cases hkj:kj=2
    ·have h0:ki=0:=by
        subst hkj
        simp only [compat,Bool.or_eq_true,Bool.and_eq_true,beq_iff_eq]at hc
        rcases hc with(hc|hc)|hc
        ·exact hc
        ·omega
        ·omega
     rw [if_pos hkj]at h2⊢
     refine wp_map hQ (ej a v).symm (by cases oi.dst<;>rfl) (fun ds u w1 hk1=>?_) h2
     refine later _ _ ?_ ?_ (.inr h0) ?_
     ·rw [ei,FH]
     ·rw [wi,nV]
     ·rw [←cm,←yY];exact hk1
    ·rw [if_neg hkj]at h2⊢
     obtain⟨u,hu,hn2⟩:=h2
     refine⟨u,fun x hx=>?_,?_⟩
     ·have:=hu x hx
      unfold Oper.quietAt at this⊢
      rw [ej]at this;exact this
     ·exact later _ _ (ei a u) (wi a u) (.inl rfl) (by rw [←cm];exact hn2)
   ·have IW:Region.wanted oj (yielded ops a.tmps)=false:=by simpa using QT
    rw [IW]at h2⊢
    simp only [Bool.false_eq_true,if_false]at h2⊢
    exact later _ _ (ei a undef) (wi a undef) (.inl rfl) (by rw [←cm];exact h2)
 ·
  have X7:Region.wanted oi (yielded ops a.tmps)=false:=by simpa using hwi
  have hi':K (a.put oi.dst undef) w:=by unfold eP at h;simpa only [X7,Bool.false_eq_true,if_false]using h
  have h2:=hK _ _ hi'
  have later:∀(a':Act)(w':World),Region.wanted oi (yielded ops a'.tmps)=Region.wanted oi (yielded ops a.tmps)→K2 (a'.put oi.dst undef) w'→eP P ops Q ki oi K2 a' w':=by
   intro a' w' zU hk2
   unfold eP
   rw [zU,X7,if_neg (by decide)];exact hk2
  unfold eP at h2⊢
  rw [wj]at h2
  by_cases QT:Region.wanted oj (yielded ops a.tmps)=true
  ·rw [QT]at h2⊢
   simp only [if_true]at h2⊢
   by_cases hkj:kj=2
   ·rw [if_pos hkj]at h2⊢
    refine wp_map hQ (ej a undef).symm (by cases oi.dst<;>rfl) (fun ds u w1 hk1=>?_) h2
    exact later _ _ (by rw [wi,nV]) (by rw [←cm,←yY];exact hk1)
   ·rw [if_neg hkj]at h2⊢
    obtain⟨u,hu,hn2⟩:=h2
    refine⟨u,fun x hx=>?_,later _ _ (wi a u) (by rw [←cm];exact hn2)⟩
    have:=hu x hx
    unfold Oper.quietAt at this⊢
    rw [ej]at this;exact this
  ·have IW:Region.wanted oj (yielded ops a.tmps)=false:=by simpa using QT
   rw [IW]at h2⊢
   simp only [Bool.false_eq_true,if_false]at h2⊢
   exact later _ _ (wi a undef) (by rw [←cm];exact h2)
structure Free(md:Region.Mode)(ops:Array Oper)(ws:List Nat)(listed:Array Bool)(i:Nat)(oi:Oper)(D:Nat→Bool):Prop where
 un:listed.getD i true=false
 dep:∀j oj,ops[j]?=some oj→j≠i→D j=true→listed.getD j true=false∧∃e∈oj.after,Region.binds md e=true∧(e.on=i∨(D e.on=true∧e.on≠i∧e.on<ops.size))
 ok:∀j oj,ops[j]?=some oj→j≠i→D j=false→listed.getD j true=false→oi.apart ops oj=true∧compat (kx ws i oi) (kx ws j oj)=true
theorem Gt{listed:Array Bool}{i:Nat}(h:listed.getD i true=false):listed.getD i false=false:=by
 rcases Nat.lt_or_ge i listed.size with h'|h'
 ·simp [h']at h⊢;exact h
 ·simp [Array.getElem?_eq_none h']at h
theorem Free.ready{listed:Array Bool}{i:Nat}{oi:Oper}{D:Nat→Bool}(F:Free md ops ws listed i oi D){j:Nat}(hj:j∈Region.ready md ops listed)(hne:j≠i):D j=false:=by
 obtain⟨h0,oj,hoj,hall⟩:=mem_ready.1 hj
 cases hD:D j with
 |false=>rfl
 |true=>
  exfalso
  obtain⟨_,e,he,hb,hor⟩:=F.dep j oj hoj hne hD
  have h1:=hall e he hb
  rcases hor with h2|⟨h2,h3,h4⟩
  ·rw [h2,Gt F.un]at h1;cases h1
  ·obtain⟨o3,ho3⟩:∃o,ops[e.on]?=some o:=⟨ops[e.on],Array.getElem?_eq_getElem h4⟩
   have:=(F.dep e.on o3 ho3 h3 h2).1
   rw [Gt this]at h1;cases h1
theorem Free.set{listed:Array Bool}{i:Nat}{oi:Oper}{D:Nat→Bool}(F:Free md ops ws listed i oi D){j:Nat}(hj:j∈Region.ready md ops listed)(hne:j≠i):Free md ops ws (listed.setIfInBounds j true) i oi D:=by
 have hDj:=F.ready hj hne
 refine⟨by rw [getD_set_ne true hne];exact F.un,fun k ok hk hki hD=>?_,fun k ok hk hki hD hun=>?_⟩
 ·have hkj:j≠k:=fun e=>by subst e;rw [hDj]at hD;cases hD
  rw [getD_set_ne true hkj];exact F.dep k ok hk hki hD
 ·refine F.ok k ok hk hki hD ?_
  by_cases hkj:j=k
  ·subst hkj;exact(mem_ready.1 hj).1
  ·rw [getD_set_ne true hkj]at hun;exact hun
theorem GX{i:Nat}{o:Oper}(h:kx ws i o=0):kd o=0:=by
 unfold kx at h;split at h
 ·cases h
 ·exact h
theorem first{i:Nat}{oi:Oper}{D:Nat→Bool}(hi:ops[i]?=some oi)(hQ:Shut Q)(hsel:∀(j:Nat)(o:Oper)cs b,ops[j]?=some o→o.op≠ .select cs b):
 ∀(fuel:Nat)(listed:Array Bool)(a:Act)(w:World),Free md ops ws listed i oi D→i∈Region.ready md ops listed→
  CG P ops ws Q i (wpAnyL P md ops ws Q fuel (listed.setIfInBounds i true)) a w→wpAnyL P md ops ws Q (fuel+1) listed a w:=by
 intro fuel
 induction fuel with
 |zero=>
  intro listed a w F hr H
  refine⟨fun h=>(by rw [h]at hr;cases hr),fun j hj=>?_⟩
  by_cases hji:j=i
  ·subst hji;exact H
  ·rw [lJ hi]at H
   obtain⟨a',w',hk⟩:=Jq hQ H
   have:=ready_mono hj hji
   rw [hk.1]at this
   cases this
 |succ fuel ih=>
  intro listed a w F hr H
  refine⟨fun h=>(by rw [h]at hr;cases hr),fun j hj=>?_⟩
  by_cases hji:j=i
  ·subst hji;exact H
  ·obtain⟨hjun,oj,hoj,hall⟩:=mem_ready.1 hj
   have hD:=F.ready hj hji
   obtain⟨hap,hc⟩:=F.ok j oj hoj hji hD hjun
   rw [lJ hi]at H
   have H2:=swap (K2:=wpAnyL P md ops ws Q fuel ((listed.setIfInBounds i true).setIfInBounds j true)) hQ (fun cs b=>hsel i oi cs b hi) (fun cs b=>hsel j oj cs b hoj) hap hc GX GX H
    (fun a' w' hk=>by have:=hk.2 j (ready_mono hj hji);rw [lJ hoj]at this;exact this)
   rw [lJ hoj]
   refine wI (fun a' w' h3=>ih (listed.setIfInBounds j true) a' w' (F.set hj hji) (ready_mono hr (Ne.symm hji)) ?_) H2
   rw [lJ hi,Array.setIfInBounds_comm _ _ hji]
   exact h3
theorem free_spec{i:Nat}{oi:Oper}{listed:Array Bool}(hi:ops[i]?=some oi)(hr:i∈Region.ready md ops listed)(h:L8 md ops ws listed i=true):
 Free md ops ws listed i oi (fun j=>(dep md ops i).getD j false):=by
 simp only [L8,hi,List.all_eq_true,List.mem_range]at h
 refine⟨(mem_ready.1 hr).1,fun j oj hj hne hD=>?_,fun j oj hj hne hD hun=>?_⟩
 ·have h1:=h j (Array.getElem?_eq_some_iff.1 hj).1
  simp only [hj,beq_iff_eq,hne,if_false,hD,if_true,Bool.and_eq_true]at h1
  obtain⟨h2,h3⟩:=h1
  obtain⟨e,he,hb⟩:=Array.any_eq_true'.1 h3
  simp only [Bool.and_eq_true,Bool.or_eq_true,beq_iff_eq,bne_iff_ne,decide_eq_true_eq]at hb
  refine⟨h2,e,he,hb.1,?_⟩
  rcases hb.2 with h4|⟨⟨h4,h5⟩,h6⟩
  ·exact .inl h4
  ·exact .inr ⟨h4,h5,h6⟩
 ·have h1:=h j (Array.getElem?_eq_some_iff.1 hj).1
  simp only [hj,beq_iff_eq,hne,if_false,hD,Bool.false_eq_true,hun,Bool.false_or,Bool.and_eq_true]at h1
  exact h1
theorem lex(hs:Region.noSelect ops=true)(hQ:Shut Q):∀(l:List Oper)(k:Nat)(listed:Array Bool)(a:Act)(w:World),(∀j,l[j]?=ops[k+j]?)→
 lexFrom md ops ws l.length k listed=true→Dh P ops ws Q k l a w→wpAnyL P md ops ws Q l.length listed a w
 |[],_,_,_,_,_,hB,h=>⟨by simpa [lexFrom]using hB,h⟩
 |o::l,k,listed,a,w,hl,hB,h=>by
  have h0:ops[k]?=some o:=by simpa using(hl 0).symm
  simp only [List.length_cons,lexFrom,Bool.and_eq_true]at hB
  obtain⟨⟨hr,hf⟩,hB'⟩:=hB
  have hr':k∈Region.ready md ops listed:=by simpa using hr
  refine first h0 hQ (Region.noSelect_spec hs) l.length listed a w (free_spec h0 hr' hf) hr' ?_
  rw [lJ h0]
  have hst:eP P ops Q (kx ws k o) o (Dh P ops ws Q (k+1) l) a w:=h
  exact wI (fun a' w' hh=>lex hs hQ l (k+1) _ a' w' (fun j=>by have:=hl (j+1);simpa [Nat.add_assoc,Nat.add_comm 1 j]using this) hB' hh) hst
def Only(Q:Exit→Act→World→Prop):Exit→Act→World→Prop
 | .normal,a,w=>Q .normal a w
 |_,_,_=>False
theorem Ij:Shut (Only Q):=⟨fun _ _ _ h=>h,fun⟨_,_,h⟩=>h⟩
theorem wp_region{id:Nat}{a:Act}{w:World}{l:List Oper}(ws:List Nat)(hm:P.follows .mixedOrders=true)(hB:lexB l.toArray ws=true)
 (h:Dh P l.toArray ws (Only Q) 0 l a w.drew):(Code.region id l.toArray true).wp P Q a w:=by
 refine Code.wp_mono (Q:=Only Q) (fun e a w hh=>?_) ?_
 ·cases e<;>first|exact hh|exact hh.elim
 ·simp only [lexB,Bool.and_eq_true]at hB
  refine wp_region_any hm (jW (ws:=ws) _ _ _ _ ?_)
  have:=lex (P:=P) (md:= .any) (ws:=ws) (Q:=Only Q) hB.1 Ij l 0 (Array.replicate l.toArray.size false) a w.drew (by simp) (by simpa using hB.2) h
  simpa using this
theorem cO{i:Nat}{a:Act}{w:World}(h:Q .normal a w):Dh P ops ws (Only Q) i [] a w:=h
theorem bJ{i:Nat}{o:Oper}{rest:List Oper}{a:Act}{w:World}(hw:Region.wanted o (yielded ops a.tmps)=false)(h:Dh P ops ws Q (i+1) rest (a.put o.dst undef) w):Dh P ops ws Q i (o::rest) a w:=by
 unfold Dh;rw [hw,if_neg (by decide)];exact h
theorem fP{i:Nat}{o:Oper}{rest:List Oper}{a:Act}{w:World}(hw:Region.wanted o (yielded ops a.tmps)=true)(hk:(kx ws i o==2)=false)
 (h:∀K:Act→Prop,(∀a,Dh P ops ws Q (i+1) rest a w→K a)→o.quiet P a (fun u=>u=w) K):Dh P ops ws Q i (o::rest) a w:=by
 unfold Dh;rw [if_pos hw,if_neg (by simpa using hk)];exact h _ (fun _ hh=>hh)
theorem fQ{i:Nat}{o:Oper}{rest:List Oper}{a:Act}{w:World}(hw:Region.wanted o (yielded ops a.tmps)=true)(hk:(kx ws i o==2)=true)
 (h:∀K:Act→World→Prop,(∀a w,Dh P ops ws Q (i+1) rest a w→K a w)→o.wp P a w K Q):Dh P ops ws Q i (o::rest) a w:=by
 unfold Dh;rw [if_pos hw,if_pos (by simpa using hk)];exact h _ (fun _ _ hh=>hh)
end
end Rg
end
section
open Go.RowKit
def W.flags(c:Bool)(r:Int)(v:Bool):Value:= .agg #[.bool c, .bool (W.fZ r), .bool (W.fN r), .bool v]
theorem W.ae4{c c':Bool}{r r':Int}{z n v v':Bool}(h1:c=c')(h2:z=W.fZ r)(h3:n=W.fN r)(h4:v=v'):Value.agg #[.bool c, .bool z, .bool n, .bool v]=W.flags c' r v':=by
 subst h1;subst h2;subst h3;subst h4;rfl
theorem W.ZE(y:Int)(h:W.I y):bits .xor .i64 (-1) y=-y-1:=by
 have e:(BitVec.ofInt 64 (-1)^^^BitVec.ofInt 64 y)=BitVec.ofInt 64 (-y-1):=by
  have e1:BitVec.ofInt 64 (-1)=BitVec.allOnes 64:=by decide
  rw [e1,BitVec.allOnes_xor,BitVec.not_eq_neg_add,←BitVec.ofInt_neg,show(1#64)=BitVec.ofInt 64 1 from rfl,BitVec.sub_eq_add_neg,←BitVec.ofInt_neg,←BitVec.ofInt_add];rfl
 show IntKind.i64.wrap ((BitVec.ofInt 64 (-1)^^^BitVec.ofInt 64 y).toNat:Int)=_
 rw [e,BitVec.toNat_ofInt,Int.toNat_of_nonneg (Int.emod_nonneg _ (by decide)),IntKind.wrap_i64]
 have:=h.1;have:=h.2
 rw [show((2^64:Nat):Int)=18446744073709551616 from rfl]
 omega
end
section
open Go.RowKit
theorem VA{xs ys:List Int}{k:Nat}(h:xs.getD k 0≠ys.getD k 0):decide (xs=ys)=false:=by
 rw [decide_eq_false_iff_not];intro e;subst e;exact h rfl
theorem VT{xs ys:List Int}(hl:xs.length=ys.length)(h:∀j,j<xs.length→xs.getD j 0=ys.getD j 0):xs=ys:=by
 apply List.ext_getElem hl
 intro i h1 h2
 have:=h i h1
 simpa [List.getD_eq_getElem?_getD,List.getElem?_eq_getElem h1,List.getElem?_eq_getElem h2]using this
end
section
open Go.RowKit
def ak(w:World)(g:Nat)(t:TypeId)(cs:Array Value):Prop:=w.heap[g]?=some (.cells cs t (0,0))
section
variable{w w':World}{g:Nat}{t:TypeId}{cs:Array Value}
theorem ak.lt(h:ak w g t cs):g<w.heap.size:=by
 rcases Nat.lt_or_ge g w.heap.size with hlt|hge
 ·exact hlt
 ·unfold ak at h;rw [Array.getElem?_eq_none hge]at h;cases h
theorem ak.cell(h:ak w g t cs)(i:Nat):w.cell? ⟨g,i,none⟩=cs[i]?:=cell_of_row w g i cs t (0,0) h
theorem ak.frozen(h:ak w g t cs)(i:Nat):w.frozen? ⟨g,i,none⟩=false:=by
 unfold ak at h
 simp [World.frozen?,h]
theorem ak.new(w:World)(t:TypeId)(cs:Array Value):ak (w.alloc (.cells cs t)) w.heap.size t cs:=heap_alloc_new w _
theorem ak.drewN(h:ak w g t cs)(n:Nat):ak (w.drewN n) g t cs:=h
theorem ak.drew(h:ak w g t cs):ak w.drew g t cs:=h
theorem ak.alloc(h:ak w g t cs)(o:Obj):ak (w.alloc o) g t cs:=(Below.heap_alloc w o g h.lt).trans h
theorem ak.dJ(h:ak w g t cs)(i:Nat)(u:Value):ak (w.setCell ⟨g,i,none⟩ u) g t (cs.setIfInBounds i u):=by
 unfold ak at h⊢
 simp [World.setCell,Array.getElem?_modify,h]
theorem ak.far(h:ak w g t cs){p:Addr}(hp:g≠p.block)(u:Value):ak (w.setCell p u) g t cs:=(Below.heap_setCell w p u g hp).trans h
theorem ak.below{B:Nat}(h:ak w g t cs)(hb:Below B w w')(hg:g<B):ak w' g t cs:=(hb.block g hg).trans h
theorem ak.keep(h:ak w g t cs)(hb:Below w.heap.size w w'):ak w' g t cs:=h.below hb h.lt
theorem ak.grown{row:Option Nat}(h:ak w g t cs)(hb:w.grownBy w' row)(hg:some g≠row):ak w' g t cs:=(hb.block g h.lt hg).trans h
theorem ak.XV{g':Nat}{t':TypeId}{cs':Array Value}(h:ak w g t cs)(h':ak w g' t' cs')(hne:t≠t'):g≠g':=by
 rintro rfl
 unfold ak at h h'
 rw [h]at h'
 injection h' with h'
 injection h' with _ ht
 exact hne ht
theorem ak.rd(h:ak w g t cs){n cap:Nat}(hn:n=cs.size)(hm:n≤maxLen)(hc:n≤cap):Rd w 1 (.slice (some ⟨g,0,none⟩) n cap) n cs.toList:=by
 refine⟨by simp [hn],hm,_,cap,rfl,hc,fun _=>⟨g,0,rfl,fun j u hu=>?_⟩⟩
 rw [Nat.zero_add,h.cell]
 simpa using hu
end
theorem xF(z:Value)(n:Nat):madeCells #[z] n=(List.replicate n z).toArray:=by
 unfold madeCells
 apply Array.ext (by simp)
 intro i h1 h2
 simp [Nat.mod_one]
theorem Ou{P:Program}{ops:Array Oper}{l:List Oper}{Q:Exit→Act→World→Prop}{a:Act}{w:World}{o:Obj}(h:∀w1,w1=w.alloc o→wpList P ops Q l a w1):wpList P ops Q l a (w.alloc o):=h _ rfl
theorem Kv{P:Program}(w:World){ops:Array Oper}{rest:List Oper}{o:Oper}{a:Act}{Q:Exit→Act→World→Prop}
 (hg:o.guard=none)(l c:Operand)(t:TypeId)(hop:o.op=Op.makeSlice t l c)
 (e:TypeId)(i:TypeInfo)(z:Value)(ht:P.underlying t=some (.slice e))(hi:P.info? e=some i)(hz:i.zero=some z)(hsize:i.size=1)(hz1:z.cells=#[z])
 (kl kc:IntKind)(n:Nat)(hl:a.eval l= .int kl (n:Int))(hc:a.eval c= .int kc (n:Int))(hbytes:i.bytes*n≤281474976710656)(h63:n≤9223372036854775807)
 (hK:∀w1,ak w1 w.heap.size e (List.replicate n z).toArray→Below w.heap.size w w1→w1.heap.size=w.heap.size+1→wpList P ops Q rest (a.put o.dst (.slice (some ⟨w.heap.size,0,none⟩) n n)) w1):
 wpList P ops Q (o::rest) a w:=
 wpList_make_row w hg l c t hop e i z ht hi hz hsize hz1 kl kc n hl hc hbytes h63 (hK _ (by rw [←xF];exact ak.new w e _) ((Below.refl _ _).alloc (Nat.le_refl _) _) (by simp))
end
section
open Go.RowKit
namespace Hd
def Keeps(S:World→Prop):Prop:=∀w w',S w→Below w.heap.size w w'→S w'
theorem Keeps.and{S T:World→Prop}(h:Keeps S)(k:Keeps T):Keeps (fun w=>S w∧T w):=fun w w' hs hb=>⟨h w w' hs.1 hb,k w w' hs.2 hb⟩
theorem Keeps.cell(b o:Nat)(v:Value):Keeps (fun w=>w.cell? ⟨b,o,none⟩=some v):=fun w w' hs hb=>by
 show w'.cell? ⟨b,o,none⟩=some v
 rw [(xG hb).1 _ _ (World.block_lt_of_cell? w ⟨b,o,none⟩ hs)];exact hs
theorem Keeps.free(b o:Nat)(v:Value):Keeps (fun w=>w.cell? ⟨b,o,none⟩=some v∧w.frozen? ⟨b,o,none⟩=false):=fun w w' hs hb=>
 ⟨Keeps.cell b o v w w' hs.1 hb,by show w'.frozen? ⟨b,o,none⟩=false;rw [(xG hb).2 _ _ (World.block_lt_of_cell? w ⟨b,o,none⟩ hs.1)];exact hs.2⟩
theorem Keeps.below(w0:World):Keeps (fun w=>Below w0.heap.size w0 w):=fun w w' hs hb=>Ext.trans hs hb
theorem Keeps.rd(size:Nat)(v:Value)(n:Nat)(cs:List Value):Keeps (fun w=>Rd w size v n cs):=fun w w' hs hb=>hs.below hb
theorem Keeps.hid{S:World→Prop}(h:Keeps S):Keeps (fun w=>Hid (S w)):=fun w w' hs hb=>h w w' hs.out hb
theorem quiet_mono{P:Program}{ops:Array Oper}{C:World→Prop}{Q Q':Act→Prop}(h:∀a,Q a→Q' a):∀(l:List Oper)(a:Act),wpQuiet P ops C Q l a→wpQuiet P ops C Q' l a
 |[],a,hh=>h a hh
 |o::rest,a,hh=>by
  unfold wpQuiet at hh⊢
  split
  ·rename_i hw;rw [if_pos hw]at hh;exact Oper.quiet_mono (quiet_mono h rest) hh
  ·rename_i hw;rw [if_neg hw]at hh;exact quiet_mono h rest _ hh
theorem wp_region{P:Program}{id:Nat}{Q:Exit→Act→World→Prop}{a:Act}{w:World}{l:List Oper}(S:World→Prop)(hm:P.follows .mixedOrders=true)(hB:Region.lexB .any l.toArray=true)
 (hk:Keeps S)(hS:S w)
 (h:∀(W:Type)(_:Nonempty W)(wd:W→World)(ok:∀x,S (wd x))(cl:Hid (∀x w',Below (wd x).heap.size (wd x) w'→∃y,w'=wd y))(cs:Hid (∀w',S w'→∃y,w'=wd y)),wpQuiet P l.toArray (fun w'=>∃x:W,w'=wd x) (fun a'=>∀x:W,Q .normal a' (wd x)) l a):
 (Code.region id l.toArray true).wp P Q a w:=by
 have hd:S w.drew:=hk _ _ hS (Ext.drew (Below.refl _ _))
 have key:=h {w:World//S w} ⟨⟨w,hS⟩⟩ (fun x=>x.1) (fun x=>x.2) (fun x w' hb=>⟨⟨w',hk _ _ x.2 hb⟩,rfl⟩) (fun w' hs=>⟨⟨w',hs⟩,rfl⟩)
 refine Go.wp_region_quiet (C:=fun w'=>∃x:{w:World//S w},w'=x.1) hm hB ⟨⟨_,hd⟩,rfl⟩ ?_
 refine quiet_mono ?_ _ _ key
 rintro a' hq w'⟨x,rfl⟩
 exact hq x
end Hd
end
section
open Go
open Go.RowKit
namespace Iv
def fill:Nat→List Oper→(Nat→Bool)→(Nat→Value)→Act→Act
 |_,[],_,_,a=>a
 |i,o::rest,on,vs,a=>fill (i+1) rest on vs (if on i then a.put o.dst (vs i)else a)
theorem nH(a:Act)(d:Option Tmp)(v:Value):(a.put d v).tmps.size=a.tmps.size:=by cases d<;>simp [Act.put]
theorem put_defers(a:Act)(d:Option Tmp)(v:Value):(a.put d v).defers=a.defers:=by cases d<;>rfl
theorem dO:∀(l:List Oper)(i:Nat)(on:Nat→Bool)(vs:Nat→Value)(a:Act),(fill i l on vs a).tmps.size=a.tmps.size
 |[],_,_,_,_=>rfl
 |o::l,i,on,vs,a=>by
  unfold fill;rw [dO l];split
  ·exact nH ..
  ·rfl
theorem cu:∀(l:List Oper)(i:Nat)(on:Nat→Bool)(vs:Nat→Value)(a:Act),(fill i l on vs a).defers=a.defers
 |[],_,_,_,_=>rfl
 |o::l,i,on,vs,a=>by
  unfold fill;rw [cu l];split
  ·exact put_defers ..
  ·rfl
theorem kL(a:Act)(d:Option Tmp)(v:Value)(t:Nat):(a.put d v).tmps[t]?=if d=some t then(if t<a.tmps.size then some v else none)else a.tmps[t]?:=by
 cases d with
 |none=>simp [Act.put]
 |some d=>
  simp only [Act.put,Array.getElem?_setIfInBounds,Option.some.injEq]
  by_cases h:d=t
  ·subst h;simp
  ·simp [h]
theorem je:∀(l:List Oper)(i:Nat)(on on':Nat→Bool)(vs vs':Nat→Value)(a a':Act)(t:Nat),a.tmps.size=a'.tmps.size→a.tmps[t]?=a'.tmps[t]?→
 (∀j o,l[j]?=some o→o.dst=some t→on (i+j)=on' (i+j)∧(on (i+j)=true→vs (i+j)=vs' (i+j)))→(fill i l on vs a).tmps[t]?=(fill i l on' vs' a').tmps[t]?
 |[],_,_,_,_,_,_,_,_,_,h,_=>h
 |o::l,i,on,on',vs,vs',a,a',t,hs,h,hj=>by
  unfold fill
  refine je l (i+1) on on' vs vs' _ _ t ?_ ?_ (fun j o' ho hd=>by
   have:=hj (j+1) o' (by simpa using ho) hd
   rw [show i+1+j=i+(j+1)by omega];exact this)
  ·split<;>split<;>simp [nH,hs]
  ·by_cases hd:o.dst=some t
   ·have:=hj 0 o (by simp) hd
    simp only [Nat.add_zero]at this
    rw [←this.1]
    split
    ·rename_i hon;rw [kL,kL,hs,this.2 hon,h]
    ·exact h
   ·split<;>split<;>simp [kL,hd,h]
theorem QH(a:Act){x y:Option Tmp}(v u:Value)(h:∀d,x=some d→y≠some d):(a.put x v).put y u=(a.put y u).put x v:=Act.put_comm a v u h
theorem vZ:∀(l:List Oper)(i:Nat)(on:Nat→Bool)(vs:Nat→Value)(a:Act)(x:Option Tmp)(v:Value),(∀(j:Nat)(o:Oper),l[j]?=some o→∀d,x=some d→o.dst≠some d)→
 fill i l on vs (a.put x v)=(fill i l on vs a).put x v
 |[],_,_,_,_,_,_,_=>rfl
 |o::l,i,on,vs,a,x,v,h=>by
  unfold fill
  split
  ·rw [QH a v (vs i) (h 0 o (by simp)),vZ l (i+1) on vs _ x v (fun j o' ho=>h (j+1) o' (by simpa using ho))]
  ·rw [vZ l (i+1) on vs _ x v (fun j o' ho=>h (j+1) o' (by simpa using ho))]
theorem bZ:∀(l:List Oper)(i:Nat)(on on':Nat→Bool)(vs vs':Nat→Value)(a:Act),(∀j,j<l.length→on (i+j)=on' (i+j)∧(on (i+j)=true→vs (i+j)=vs' (i+j)))→fill i l on vs a=fill i l on' vs' a
 |[],_,_,_,_,_,_,_=>rfl
 |o::l,i,on,on',vs,vs',a,h=>by
  unfold fill
  have h0:=h 0 (by simp)
  simp only [Nat.add_zero]at h0
  rw [←h0.1]
  have e:(if on i=true then a.put o.dst (vs i)else a)=(if on i=true then a.put o.dst (vs' i)else a):=by
   split
   ·rename_i hon;rw [h0.2 hon]
   ·rfl
  rw [e]
  exact bZ l (i+1) on on' vs vs' _ (fun j hj=>by
   have:=h (j+1) (by simp;omega)
   rw [show i+1+j=i+(j+1)by omega];exact this)
theorem aY(n k:Nat):(Array.replicate n false).getD k false=false:=by
 simp only [Array.getD_eq_getD_getElem?,Array.getElem?_replicate];split<;>rfl
theorem fG:∀(l:List Oper)(i:Nat)(on:Nat→Bool)(vs:Nat→Value)(a:Act),(∀j,on j=false)→fill i l on vs a=a
 |[],_,_,_,_,_=>rfl
 |o::l,i,on,vs,a,h=>by
  unfold fill;rw [h i];exact fG l (i+1) on vs _ h
theorem jf:∀(l:List Oper)(i p:Nat)(on on':Nat→Bool)(vs vs':Nat→Value)(a:Act)(o:Oper),l[p]?=some o→on (i+p)=false→on' (i+p)=true→
 (∀j,j≠p→on' (i+j)=on (i+j)∧vs' (i+j)=vs (i+j))→(∀(j k:Nat)(x y:Oper),l[j]?=some x→l[k]?=some y→j≠k→∀d,x.dst=some d→y.dst≠some d)→
 fill i l on' vs' a=(fill i l on vs a).put o.dst (vs' (i+p))
 |[],_,_,_,_,_,_,_,_,h,_,_,_,_=>by simp at h
 |o0::l,i,0,on,on',vs,vs',a,o,h,hoff,hon,hsame,hd=>by
  simp at h;subst h
  unfold fill
  simp only [Nat.add_zero]at hoff hon
  rw [hoff,hon]
  simp only [if_true,Nat.add_zero,Bool.false_eq_true,if_false]
  rw [bZ l (i+1) on' on vs' vs _ (fun j hj=>by
   have:=hsame (j+1) (by omega)
   rw [show i+1+j=i+(j+1)by omega];exact⟨this.1,fun _=>this.2⟩)]
  exact vZ l (i+1) on vs a _ _ (fun j o' ho d hx=>hd 0 (j+1) _ _ (by simp) (by simpa using ho) (by omega) d hx)
 |o0::l,i,p+1,on,on',vs,vs',a,o,h,hoff,hon,hsame,hd=>by
  unfold fill
  have h0:=hsame 0 (by omega)
  simp only [Nat.add_zero]at h0
  rw [h0.1,h0.2,show i+(p+1)=(i+1)+p by omega]
  exact jf l (i+1) p on on' vs vs' _ o (by simpa using h) (by rw [←hoff];congr 1;omega) (by rw [←hon];congr 1;omega)
   (fun j hj=>by have:=hsame (j+1) (by omega);rw [show i+1+j=i+(j+1)by omega];exact this)
   (fun j k x y hx hy hjk=>hd (j+1) (k+1) x y (by simpa using hx) (by simpa using hy) (by omega))
def pJ(md:Region.Mode)(l:List Oper):List (List Nat):=
 l.foldl (fun acc o=>acc++[(o.after.toList.filter (fun e=>Region.binds md e)).foldr (fun e r=>(e.on::(acc[e.on]?.getD []))++r) []|>.eraseDups]) []
def zh(md:Region.Mode)(l:List Oper)(B:List (List Nat)):Bool:=
 (List.range l.length).all fun i=>match l[i]? with
   |none=>true
   |some o=>(B[i]?.getD []).all fun k=>o.after.toList.any fun e=>Region.binds md e&&(e.on==k||(B[e.on]?.getD []).contains k)
def lS(l:List Oper)(B:List (List Nat)):Bool:=
 (List.range l.length).all fun i=>match l[i]? with
   |none=>true
   |some o=>(List.range l.length).all fun j=>match l[j]? with
    |none=>true
    |some o'=>match o'.dst with
     |none=>true
     |some d=>(!(o.looksAt l.toArray).contains d||(B[i]?.getD []).contains j)&&(i==j||o.dst !=some d)
def vN(md:Region.Mode)(l:List Oper):Bool:=
 (List.range l.length).all fun i=>match l[i]? with
   |none=>true
   |some o=>o.after.toList.all fun e=>!Region.binds md e||decide (e.on<i)
def okB(md:Region.Mode)(l:List Oper)(B:List (List Nat)):Bool:=Region.noSelect l.toArray&&zh md l B&&lS l B&&vN md l
theorem iy{md:Region.Mode}{l:List Oper}(h:vN md l=true)(listed:Array Bool)(hs:listed.size=l.length)(hr:Region.ready md l.toArray listed=[]):
 ∀k,k<l.length→listed.getD k false=true:=by
 intro k
 induction k using Nat.strongRecOn with
 |_ k ih=>
  intro hk
  cases hl:listed.getD k false with
  |true=>rfl
  |false=>
   exfalso
   have hm:k∈Region.ready md l.toArray listed:=by
    refine mem_ready.2 ⟨?_,l[k],by simp [hk],fun e he hb=>?_⟩
    ·have hk':k<listed.size:=by omega
     simp [hk']at hl⊢;exact hl
    ·unfold vN at h
     rw [List.all_eq_true]at h
     have h1:=h k (List.mem_range.2 hk)
     simp only [List.getElem?_eq_getElem hk]at h1
     rw [List.all_eq_true]at h1
     have h2:=h1 e (by simpa using he)
     rw [hb]at h2
     have h3:e.on<k:=by simpa using h2
     exact ih _ h3 (by omega)
   rw [hr]at hm
   cases hm
theorem fM{md:Region.Mode}{l:List Oper}{B:List (List Nat)}(h:zh md l B=true){i:Nat}{o:Oper}(hi:l[i]?=some o){k:Nat}(hk:k∈B[i]?.getD []):
 ∃e∈o.after,Region.binds md e=true∧(e.on=k∨k∈B[e.on]?.getD []):=by
 unfold zh at h
 rw [List.all_eq_true]at h
 have h1:=h i (List.mem_range.2 (List.getElem?_eq_some_iff.1 hi).1)
 simp only [hi]at h1
 rw [List.all_eq_true]at h1
 have h2:=h1 k hk
 rw [List.any_eq_true]at h2
 obtain⟨e,he,h3⟩:=h2
 simp only [Bool.and_eq_true,Bool.or_eq_true,beq_iff_eq,List.contains_iff_mem]at h3
 exact⟨e,by simpa using he,h3.1,h3.2⟩
theorem bH{l:List Oper}{B:List (List Nat)}(h:lS l B=true){i j:Nat}{o o':Oper}(hi:l[i]?=some o)(hj:l[j]?=some o'){d:Tmp}(hd:o'.dst=some d):
 (d∈o.looksAt l.toArray→j∈B[i]?.getD [])∧(i≠j→o.dst≠some d):=by
 unfold lS at h
 rw [List.all_eq_true]at h
 have h1:=h i (List.mem_range.2 (List.getElem?_eq_some_iff.1 hi).1)
 simp only [hi]at h1
 rw [List.all_eq_true]at h1
 have h2:=h1 j (List.mem_range.2 (List.getElem?_eq_some_iff.1 hj).1)
 simp only [hj,hd,Bool.and_eq_true,Bool.or_eq_true,Bool.not_eq_true',beq_iff_eq,bne_iff_ne,ne_eq]at h2
 refine⟨fun hm=>?_,fun hne=>h2.2.resolve_left hne⟩
 rcases h2.1 with h3|h3
 ·have:(o.looksAt l.toArray).contains d=true:=by simpa using hm
  rw [h3]at this;cases this
 ·simpa using h3
def lastB(l:List Oper)(p:Nat)(B:List (List Nat)):Bool:=decide (p+1=l.length)&&(List.range p).all fun k=>(B[p]?.getD []).contains k
def lk(l:List Oper)(o:Oper)(k:Nat):Bool:=match l[k]? with
 |none=>false
 |some o'=>match o'.dst with
  |none=>false
  |some d=>(o.looksAt l.toArray).contains d
section
variable{P:Program}{md:Region.Mode}{l:List Oper}{Q:Exit→Act→World→Prop}{S:World→Prop}{V:Nat→Value→World→Prop}{B:List (List Nat)}{a0:Act}
def goI(P:Program)(l:List Oper)(Q:Exit→Act→World→Prop)(V:Nat→Value→World→Prop)(i:Nat)(o:Oper)(w:World)(a:Act):Prop:=
 if Region.wanted o (yielded l.toArray a.tmps)=true then∀K:Act→World→Prop,(∀v w',Below w.heap.size w w'→V i v w'→K (a.put o.dst v) w')→o.wp P a w K Q
 else V i undef w
def dW(P:Program)(l:List Oper)(Q:Exit→Act→World→Prop)(S:World→Prop)(V:Nat→Value→World→Prop)(a0:Act)(i:Nat)(o:Oper):Prop:=
 ∀(vs:Nat→Value)(w:World),S w→(∀k,lk l o k=true→V k (vs k) w)→goI P l Q V i o w (fill 0 l (lk l o) vs a0)
def ask(V:Nat→Value→World→Prop)(w:World)(look:List Tmp)(G:Act→Prop):Nat→List Oper→Act→Prop
 |_,[],a=>G a
 |j,o::rest,a=>match o.dst with
  |none=>ask V w look G (j+1) rest a
  |some d=>if look.contains d=true then∀v,V j v w→ask V w look G (j+1) rest (a.put (some d) v)else ask V w look G (j+1) rest a
theorem eF{V:Nat→Value→World→Prop}{w:World}{look:List Tmp}{G:Act→Prop}:∀(l:List Oper)(j:Nat)(a:Act)(on:Nat→Bool)(vs:Nat→Value),
 (∀k o,l[k]?=some o→on (j+k)=(match o.dst with|none=>false|some d=>look.contains d))→(∀k,k<l.length→on (j+k)=true→V (j+k) (vs (j+k)) w)→ask V w look G j l a→G (fill j l on vs a)
 |[],_,_,_,_,_,_,h=>h
 |o::l,j,a,on,vs,hon,hv,h=>by
  unfold fill
  unfold ask at h
  have h0:=hon 0 o (by simp)
  simp only [Nat.add_zero]at h0
  have TP:∀k o',l[k]?=some o'→on (j+1+k)=(match o'.dst with|none=>false|some d=>look.contains d):=fun k o' ho=>by
   have:=hon (k+1) o' (by simpa using ho)
   rw [show j+1+k=j+(k+1)by omega];exact this
  have hv':∀k,k<l.length→on (j+1+k)=true→V (j+1+k) (vs (j+1+k)) w:=fun k hk=>by
   have:=hv (k+1) (by simp;omega)
   rw [show j+1+k=j+(k+1)by omega];exact this
  cases hd:o.dst with
  |none=>
   rw [hd]at h h0
   simp only at h h0
   rw [h0]
   exact eF l (j+1) a on vs TP hv' h
  |some d=>
   rw [hd]at h h0
   simp only at h h0
   cases hc:look.contains d with
   |true=>
    rw [hc]at h h0
    rw [h0]
    exact eF l (j+1) _ on vs TP hv' (h _ (by have:=hv 0 (by simp);simpa using this (by simpa using h0)))
   |false=>
    rw [hc]at h h0
    rw [h0]
    exact eF l (j+1) a on vs TP hv' h
theorem ask_nil{V:Nat→Value→World→Prop}{w:World}{look:List Tmp}{G:Act→Prop}{j:Nat}{a:Act}(h:G a):ask V w look G j [] a:=h
theorem abo{V:Nat→Value→World→Prop}{w:World}{look:List Tmp}{G:Act→Prop}{j:Nat}{o:Oper}{rest:List Oper}{a:Act}(hn:(match o.dst with|none=>false|some d=>look.contains d)=false)
 (h:ask V w look G (j+1) rest a):ask V w look G j (o::rest) a:=by
 unfold ask
 cases hd:o.dst with
 |none=>exact h
 |some d=>rw [hd]at hn;simp only at hn⊢;rw [hn];exact h
theorem ZK{V:Nat→Value→World→Prop}{w:World}{look:List Tmp}{G:Act→Prop}{j:Nat}{o:Oper}{rest:List Oper}{a:Act}(hn:(match o.dst with|none=>false|some d=>look.contains d)=true)
 (h:∀v,V j v w→ask V w look G (j+1) rest (a.put o.dst v)):ask V w look G j (o::rest) a:=by
 unfold ask
 cases hd:o.dst with
 |none=>rw [hd]at hn;cases hn
 |some d=>rw [hd]at hn h;simp only at hn⊢;rw [hn];exact h
theorem kY(l:List Oper)(o:Oper)(k:Nat)(o':Oper)(h:l[k]?=some o'):lk l o k=(match o'.dst with|none=>false|some d=>(o.looksAt l.toArray).contains d):=by
 unfold lk;rw [h]
theorem Np{S:World→Prop}{V:Nat→Value→World→Prop}{a0:Act}{i:Nat}{o:Oper}(h:∀w,S w→ask V w (o.looksAt l.toArray) (goI P l Q V i o w) 0 l a0):dW P l Q S V a0 i o:=fun vs w hs hv=>
 eF l 0 a0 _ vs (fun k o' ho=>by rw [Nat.zero_add];exact kY l o k o' ho) (fun k _ hk=>by rw [Nat.zero_add]at hk⊢;exact hv k hk) (h w hs)
def needs(look:List Tmp):Nat→List Oper→List (Nat×Option Tmp)
 |_,[]=>[]
 |j,o::rest=>match o.dst with
  |none=>needs look (j+1) rest
  |some d=>if look.contains d=true then(j,some d)::needs look (j+1) rest else needs look (j+1) rest
def kE(V:Nat→Value→World→Prop)(w:World)(G:Act→Prop):List (Nat×Option Tmp)→Act→Prop
 |[],a=>G a
 |(j,d)::r,a=>∀v,V j v w→kE V w G r (a.put d v)
theorem dN{V:Nat→Value→World→Prop}{w:World}{look:List Tmp}{G:Act→Prop}:∀(l:List Oper)(j:Nat)(a:Act),kE V w G (needs look j l) a→ask V w look G j l a
 |[],_,_,h=>h
 |o::l,j,a,h=>by
  unfold needs at h
  unfold ask
  cases hd:o.dst with
  |none=>rw [hd]at h;exact dN l (j+1) a h
  |some d=>
   rw [hd]at h
   simp only at h⊢
   cases hc:look.contains d with
   |true=>
    rw [hc]at h
    simp only [if_true]at h⊢
    exact fun v hv=>dN l (j+1) _ (h v hv)
   |false=>
    rw [hc]at h
    simp only [Bool.false_eq_true,if_false]at h⊢
    exact dN l (j+1) a h
theorem vF{V:Nat→Value→World→Prop}{w:World}{G:Act→Prop}{a:Act}(h:G a):kE V w G [] a:=h
theorem qZ{V:Nat→Value→World→Prop}{w:World}{G:Act→Prop}{j:Nat}{d:Option Tmp}{r:List (Nat×Option Tmp)}{a:Act}(h:∀v,V j v w→kE V w G r (a.put d v)):kE V w G ((j,d)::r) a:=h
theorem jH{S:World→Prop}{V:Nat→Value→World→Prop}{a0:Act}{i:Nat}{o:Oper}(N:List (Nat×Option Tmp))(hN:needs (o.looksAt l.toArray) 0 l=N)(h:∀w,S w→kE V w (goI P l Q V i o w) N a0):dW P l Q S V a0 i o:=
 Np (fun w hs=>dN l 0 a0 (by rw [hN];exact h w hs))
theorem ah{V:Nat→Value→World→Prop}{i:Nat}{o:Oper}{w:World}{a:Act}(hw:Region.wanted o (yielded l.toArray a.tmps)=true)
 (h:∀K:Act→World→Prop,(∀v w',Below w.heap.size w w'→V i v w'→K (a.put o.dst v) w')→o.wp P a w K Q):goI P l Q V i o w a:=by
 unfold goI;rw [if_pos hw];exact h
theorem EC{V:Nat→Value→World→Prop}{i:Nat}{o:Oper}{w:World}{a:Act}(hw:Region.wanted o (yielded l.toArray a.tmps)=false)(h:V i undef w):goI P l Q V i o w a:=by
 unfold goI;rw [hw];exact h
def steps(P:Program)(l:List Oper)(Q:Exit→Act→World→Prop)(S:World→Prop)(V:Nat→Value→World→Prop)(a0:Act):Nat→Nat→List Oper→Prop
 |0,_,_=>True
 |_,_,[]=>True
 |n+1,i,o::rest=>dW P l Q S V a0 i o∧steps P l Q S V a0 n (i+1) rest
theorem fE{S:World→Prop}{V:Nat→Value→World→Prop}{a0:Act}{n i:Nat}{o:Oper}{rest:List Oper}(h:dW P l Q S V a0 i o)(hr:steps P l Q S V a0 n (i+1) rest):steps P l Q S V a0 (n+1) i (o::rest):=⟨h,hr⟩
theorem aC{S:World→Prop}{V:Nat→Value→World→Prop}{a0:Act}{i:Nat}{rest:List Oper}:steps P l Q S V a0 0 i rest:=by cases rest<;>trivial
theorem dM{S:World→Prop}{V:Nat→Value→World→Prop}{a0:Act}:∀(n i:Nat)(r:List Oper),steps P l Q S V a0 n i r→∀j o,j<n→r[j]?=some o→dW P l Q S V a0 (i+j) o
 |0,_,_,_,_,_,hj,_=>by omega
 |n+1,_,[],_,_,_,_,ho=>by simp at ho
 |n+1,i,o0::r,h,0,o,_,ho=>by simp at ho;subst ho;exact h.1
 |n+1,i,o0::r,h,j+1,o,hj,ho=>by
  have:=dM n (i+1) r h.2 j o (by omega) (by simpa using ho)
  rw [show i+(j+1)=i+1+j by omega];exact this
def all(V:Nat→Value→World→Prop)(w:World)(G:Act→Prop):Nat→Nat→List Oper→Act→Prop
 |0,_,_,a=>G a
 |_,_,[],a=>G a
 |n+1,j,o::rest,a=>∀v,V j v w→all V w G n (j+1) rest (a.put o.dst v)
theorem jM:∀(l:List Oper)(i:Nat)(on:Nat→Bool)(vs:Nat→Value)(a:Act),(∀j,on (i+j)=false)→fill i l on vs a=a
 |[],_,_,_,_,_=>rfl
 |o::l,i,on,vs,a,h=>by
  unfold fill;rw [show on i=false from h 0]
  exact jM l (i+1) on vs _ (fun j=>by have:=h (j+1);rwa [show i+1+j=i+(j+1)by omega])
theorem kV{V:Nat→Value→World→Prop}{w:World}{G:Act→Prop}:∀(n j:Nat)(l:List Oper)(a:Act)(on:Nat→Bool)(vs:Nat→Value),
 (∀k,on (j+k)=decide (k<n))→(∀k,k<n→V (j+k) (vs (j+k)) w)→all V w G n j l a→G (fill j l on vs a)
 |0,j,l,a,on,vs,hon,_,h=>by
  rw [jM l j on vs a (fun k=>by rw [hon];simp)]
  cases l<;>exact h
 |n+1,_,[],_,_,_,_,_,h=>h
 |n+1,j,o::l,a,on,vs,hon,hv,h=>by
  unfold fill
  have h0:=hon 0
  simp only [Nat.add_zero]at h0
  rw [h0]
  simp only [Nat.zero_lt_succ,decide_true,if_true]
  exact kV n (j+1) l _ on vs (fun k=>by have:=hon (k+1);rw [show j+1+k=j+(k+1)by omega,this];simp) (fun k hk=>by
   have:=hv (k+1) (by omega);rwa [show j+(k+1)=j+1+k by omega]at this) (h _ (by have:=hv 0 (by omega);simpa using this))
theorem all_nil{V:Nat→Value→World→Prop}{w:World}{G:Act→Prop}{j:Nat}{l:List Oper}{a:Act}(h:G a):all V w G 0 j l a:=by cases l<;>exact h
theorem all_cons{V:Nat→Value→World→Prop}{w:World}{G:Act→Prop}{n j:Nat}{o:Oper}{l:List Oper}{a:Act}(h:∀v,V j v w→all V w G n (j+1) l (a.put o.dst v)):all V w G (n+1) j (o::l) a:=h
def vl(L:List (Value→World→Prop))(k:Nat):Value→World→Prop:=(L[k]?).getD (fun _ _=>True)
theorem Yb{L:List (Value→World→Prop)}(h:∀f∈L,∀v,Hd.Keeps (f v))(k:Nat)(v:Value):Hd.Keeps (vl L k v):=by
 unfold vl
 cases hk:L[k]? with
 |none=>exact fun _ _ _ _=>trivial
 |some f=>exact h f (List.mem_of_getElem? hk) v
def is(c:Value):Value→World→Prop:=fun v _=>v=c
def sat(p:Value→Prop):Value→World→Prop:=fun v _=>p v
def wld(p:Value→World→Prop)(h:∀v,Hd.Keeps (p v)):Value→World→Prop:=p
def cnd(b:Bool)(f g:Value→World→Prop):Value→World→Prop:=fun v w=>if b=true then f v w else g v w
theorem WZ{b:Bool}{f g:Value→World→Prop}(hf:∀v,Hd.Keeps (f v))(hg:∀v,Hd.Keeps (g v))(v:Value):Hd.Keeps (cnd b f g v):=by
 cases b
 ·exact hg v
 ·exact hf v
theorem adA{f:Value→World→Prop}{L:List (Value→World→Prop)}(h:∀v,Hd.Keeps (f v))(hL:∀f∈L,∀v,Hd.Keeps (f v)):∀f'∈f::L,∀v,Hd.Keeps (f' v):=by
 intro f' hf'
 rcases List.mem_cons.1 hf' with rfl|hm
 ·exact h
 ·exact hL _ hm
theorem aeX:∀f∈([]:List (Value→World→Prop)),∀v,Hd.Keeps (f v):=fun _ h=>by cases h
theorem XF(c v:Value):Hd.Keeps (is c v):=fun _ _ h _=>h
theorem WQ(p:Value→Prop)(v:Value):Hd.Keeps (sat p v):=fun _ _ h _=>h
theorem WO(p:Value→World→Prop)(h:∀v,Hd.Keeps (p v))(v:Value):Hd.Keeps (wld p h v):=h v
structure Inv(l:List Oper)(S:World→Prop)(V:Nat→Value→World→Prop)(B:List (List Nat))(a0:Act)(p:Nat)(listed:Array Bool)(a:Act)(w:World):Prop where
 s:S w
 no:listed.getD p false=false
 sz:listed.size=l.length
 cl:∀i k,listed.getD i false=true→k∈B[i]?.getD []→listed.getD k false=true
 v:∃vs:Nat→Value,a=fill 0 l (fun k=>listed.getD k false) vs a0∧∀k,listed.getD k false=true→V k (vs k) w
theorem qM{a1 a2:Act}{d:Option Tmp}{v v':Value}(hs:a1.tmps.size=a2.tmps.size)(h:a1.put d v=a1.put d v'):a2.put d v=a2.put d v':=by
 cases d with
 |none=>rfl
 |some t=>
  have h1:(a1.put (some t) v).tmps[t]?=(a1.put (some t) v').tmps[t]?:=by rw [h]
  rw [kL,kL]at h1
  by_cases ht:t<a1.tmps.size
  ·simp [ht]at h1;rw [h1]
  ·have e:∀u:Value,a2.tmps.setIfInBounds t u=a2.tmps:=fun u=>by
    unfold Array.setIfInBounds
    rw [dif_neg (by rw [←hs];exact ht)]
   simp only [Act.put,e]
theorem wp_move{o:Oper}{a1 a2:Act}{w:World}{G:Value→World→Prop}{K2:Act→World→Prop}(hp:∀c a a' w,a.defers=a'.defers→Q (.panic c) a w→Q (.panic c) a' w)
 (hs:a1.tmps.size=a2.tmps.size)(hd:a1.defers=a2.defers)(he:execOp a2.eval o=execOp a1.eval o)
 (h:∀K:Act→World→Prop,(∀v w',G v w'→K (a1.put o.dst v) w')→o.wp P a1 w K Q)(hK:∀v w',G v w'→K2 (a2.put o.dst v) w'):o.wp P a2 w K2 Q:=by
 have h1:=h (fun a' w'=>∃v,a'=a1.put o.dst v∧K2 (a2.put o.dst v) w') (fun v w' hg=>⟨v,rfl,hK v w' hg⟩)
 clear h
 have back:∀v w',(∃v',a1.put o.dst v=a1.put o.dst v'∧K2 (a2.put o.dst v') w')→K2 (a2.put o.dst v) w':=by
  rintro v w'⟨v',e,hk⟩
  rw [qM hs e];exact hk
 unfold Oper.wp at h1⊢
 rw [he]
 generalize(execOp a1.eval o).run P w=r at h1⊢
 cases r with
 |ok n w'=>
  cases n<;>simp only [Oper.upon]at h1⊢
  case value v=>exact back v w' h1
  case skip=>exact back undef w' h1
  case defer d=>
   exfalso
   obtain⟨v',e,_⟩:=h1
   have:=congrArg Act.defers e
   rw [put_defers,put_defers]at this
   exact absurd (congrArg List.length this) (by simp)
  case enter f args=>
   refine h1.mono fun e w'' hR=>?_
   cases e with
   |returned v=>exact back v w'' hR
   |panicked c=>exact hp _ _ _ _ hd hR
   |outgrown=>exact hR
  case row row args=>exact Rows.mono h1 fun v w'' hR=>back v w'' hR
 |halt x w'=>
  cases x<;>simp only [Oper.upon]at h1⊢
  exact hp _ _ _ _ hd h1
theorem Ad(hk:Hd.Keeps S)(hV:∀k v,Hd.Keeps (V k v))(hok:okB md l B=true)(hp:∀c a a' w,a.defers=a'.defers→Q (.panic c) a w→Q (.panic c) a' w)
 (p:Nat)(hpl:p=l.length∨(p+1=l.length∧∀k,k<p→k∈B[p]?.getD []))
 (step:∀i o,i<p→l[i]?=some o→dW P l Q S V a0 i o)
 (last:∀(o:Oper)(vs:Nat→Value)(w:World),l[p]?=some o→S w→(∀k,k<p→V k (vs k) w)→Region.wanted o (yielded l.toArray (fill 0 l (fun k=>decide (k<p)) vs a0).tmps)=true∧o.wp P (fill 0 l (fun k=>decide (k<p)) vs a0) w (fun a' w'=>Q .normal a' w') Q)
 (fin:∀(vs:Nat→Value)(w:World),p=l.length→S w→(∀k,k<l.length→V k (vs k) w)→Q .normal (fill 0 l (fun _=>true) vs a0) w):
 ∀(fuel:Nat)(listed:Array Bool)(a:Act)(w:World),(listed.toList.filter (fun b=>!b)).length≤fuel→Inv l S V B a0 p listed a w→wpAny P md l.toArray Q fuel listed a w:=by
 simp only [okB,Bool.and_eq_true]at hok
 obtain⟨⟨⟨hsel,htab⟩,hlook⟩,hdg⟩:=hok
 have hdag:=iy hdg
 have done:∀(listed:Array Bool)(a:Act)(w:World),Inv l S V B a0 p listed a w→Region.ready md l.toArray listed=[]→Q .normal a w:=by
  intro listed a w hi hr
  have hall:=hdag listed hi.sz hr
  have hpe:p=l.length:=hpl.resolve_right (fun hh=>by
   have:=hall p (by omega)
   rw [hi.no]at this;cases this)
  obtain⟨vs,rfl,hv⟩:=hi.v
  rw [bZ l 0 _ (fun _=>true) vs vs a0 (fun j hj=>⟨by simpa using hall j hj,fun _=>rfl⟩)]
  exact fin vs w hpe hi.s (fun k hk=>hv k (hall k hk))
 intro fuel
 induction fuel with
 |zero=>
  intro listed a w hf hi
  have hnone:Region.ready md l.toArray listed=[]:=by
   apply List.eq_nil_iff_forall_not_mem.2
   intro j hj
   obtain⟨h0,o,ho,_⟩:=mem_ready.1 hj
   have hlt:j<listed.size:=by
    rcases Nat.lt_or_ge j listed.size with h|h
    ·exact h
    ·simp [Array.getElem?_eq_none h]at h0
   have hmem:false∈listed.toList.filter (fun b=>!b):=by
    rw [List.mem_filter]
    refine⟨?_,rfl⟩
    have e:listed[j]?=some false:=by
     rw [Array.getElem?_eq_getElem hlt]
     simp [hlt]at h0;rw [h0]
    simpa using Array.mem_of_getElem? e
   have hz:=List.eq_nil_of_length_eq_zero (Nat.le_zero.1 hf)
   rw [hz]at hmem
   cases hmem
  exact⟨hnone,done listed a w hi hnone⟩
 |succ fuel ih=>
  intro listed a w hf hi
  refine⟨done listed a w hi,fun i hir=>?_⟩
  obtain⟨h0,o,ho,hall⟩:=mem_ready.1 hir
  have ho':l[i]?=some o:=by simpa using ho
  have hlt:i<listed.size:=by
   rcases Nat.lt_or_ge i listed.size with h|h
   ·exact h
   ·simp [Array.getElem?_eq_none h]at h0
  have h0':listed.getD i false=false:=by simp [hlt]at h0⊢;exact h0
  have hB:∀k∈B[i]?.getD [],listed.getD k false=true:=by
   intro k hk
   obtain⟨e,he,hb,hor⟩:=fM htab ho' hk
   have:=hall e he hb
   rcases hor with rfl|hk2
   ·exact this
   ·exact hi.cl _ _ this hk2
  have hil:i<l.length:=(List.getElem?_eq_some_iff.1 ho').1
  by_cases tq:i=p
  ·
   subst tq
   have hbef:∀k,k<i→k∈B[i]?.getD []:=(hpl.resolve_left (by omega)).2
   have hlen:i+1=l.length:=(hpl.resolve_left (by omega)).1
   obtain⟨vs,rfl,hv⟩:=hi.v
   have e:fill 0 l (fun k=>listed.getD k false) vs a0=fill 0 l (fun k=>decide (k<i)) vs a0:=bZ l 0 _ _ vs vs a0 (fun j hj=>by
    simp only [Nat.zero_add]
    by_cases hji:j<i
    ·exact⟨by rw [hB j (hbef j hji)];simp [hji],by intros;trivial⟩
    ·have:j=i:=by omega
     subst this
     exact⟨by rw [h0'];simp,by intros;trivial⟩)
   rw [e]
   have hl:=last o vs w ho' hi.s (fun k hk=>hv k (hB k (hbef k hk)))
   unfold wpOp
   simp only [ho,hl.1,if_true]
   refine .inl (Oper.wp_mono (fun a' w' hq=>?_) hl.2)
   have hempty:Region.ready md l.toArray (listed.setIfInBounds i true)=[]:=by
    apply List.eq_nil_iff_forall_not_mem.2
    intro j hj
    obtain⟨h1,oj,hoj,_⟩:=mem_ready.1 hj
    have hjl:j<l.length:=(List.getElem?_eq_some_iff.1 (by simpa using hoj:l[j]?=some oj)).1
    by_cases hji:i=j
    ·subst hji;simp [hlt]at h1
    ·rw [getD_set_ne true hji]at h1
     have h2:=hB j (hbef j (by omega))
     have hjs:j<listed.size:=by rw [hi.sz];exact hjl
     simp [hjs]at h1 h2
     rw [h1]at h2;cases h2
   cases fuel with
   |zero=>exact⟨hempty,hq⟩
   |succ f=>exact⟨fun _=>hq,fun j hj=>by rw [hempty]at hj;cases hj⟩
  have Ej:i<p:=by rcases hpl with h|h<;>omega
  obtain⟨vs,rfl,hv⟩:=hi.v
  have Em:∀k,lk l o k=true→k∈B[i]?.getD []:=by
   intro k hk
   unfold lk at hk
   cases hlk:l[k]? with
   |none=>rw [hlk]at hk;cases hk
   |some o'=>
    rw [hlk]at hk
    cases hd:o'.dst with
    |none=>simp only [hd]at hk;cases hk
    |some d=>simp only [hd]at hk;exact(bH hlook ho' hlk hd).1 (by simpa using hk)
  have hst:=step i o Ej ho' vs w hi.s (fun k hk=>hv k (hB k (Em k hk)))
  unfold goI at hst
  have same:∀t∈o.looksAt l.toArray,(fill 0 l (lk l o) vs a0).tmps[t]?=(fill 0 l (fun k=>listed.getD k false) vs a0).tmps[t]?:=by
   intro t ht
   refine je l 0 _ _ vs vs a0 a0 t rfl rfl (fun j o' hj hd=>?_)
   have hm:=(bH hlook ho' hj hd).1 ht
   simp only [Nat.zero_add]
   rw [hB j hm,kY l o j o' hj,hd]
   refine⟨by simpa using ht,by intros;trivial⟩
  have hwant:Region.wanted o (yielded l.toArray (fill 0 l (fun k=>listed.getD k false) vs a0).tmps)=Region.wanted o (yielded l.toArray (fill 0 l (lk l o) vs a0).tmps):=by
   unfold Region.wanted
   cases hg:o.guard with
   |none=>rfl
   |some gw=>
    obtain⟨g,want⟩:=gw
    have hy:yielded l.toArray (fill 0 l (fun k=>listed.getD k false) vs a0).tmps g=yielded l.toArray (fill 0 l (lk l o) vs a0).tmps g:=by
     unfold yielded
     cases ht:(l.toArray[g]?).bind (·.dst)with
     |none=>rfl
     |some t=>
      have:=same t (by simp only [Oper.looksAt,hg,ht];simp)
      simp only [Option.bind_some,this]
    simp only [hy]
  have vH:execOp (fill 0 l (fun k=>listed.getD k false) vs a0).eval o=execOp (fill 0 l (lk l o) vs a0).eval o:=by
   refine execOp_congr o (Region.noSelect_spec hsel i o · · ho) (fun x hx=>?_)
   cases x with
   |tmp t=>
    have:=same t (by unfold Oper.looksAt;exact List.mem_append_left _ (List.mem_filterMap.2 ⟨.tmp t,by simpa using hx,rfl⟩))
    show Array.getD _ t undef=Array.getD _ t undef
    rw [Array.getD_eq_getD_getElem?,Array.getD_eq_getD_getElem?,this]
   |_=>rfl
  have next:∀v w',Below w.heap.size w w'→V i v w'→wpAny P md l.toArray Q fuel (listed.setIfInBounds i true) ((fill 0 l (fun k=>listed.getD k false) vs a0).put o.dst v) w':=by
   intro v w' hb En
   refine ih _ _ _ ?_ ⟨hk _ _ hi.s hb,by rw [getD_set_ne false tq];exact hi.no,by simp [hi.sz],?_,?_⟩
   ·have:((listed.setIfInBounds i true).toList.filter (fun b=>!b)).length+1=(listed.toList.filter (fun b=>!b)).length:=by
     rw [Array.toList_setIfInBounds]
     have hlt':i<listed.toList.length:=by simpa using hlt
     have hfalse:listed.toList[i]=false:=by simp [hlt]at h0';simpa using h0'
     rw [List.set_eq_take_append_cons_drop,if_pos hlt']
     conv=>rhs;rw [←List.take_append_drop i listed.toList,List.drop_eq_getElem_cons hlt',hfalse]
     simp [List.filter_append];omega
    omega
   ·intro j k hj hkB
    by_cases hji:i=j
    ·subst hji;exact getD_set_true (hB k hkB)
    ·rw [getD_set_ne false hji]at hj
     exact getD_set_true (hi.cl j k hj hkB)
   ·refine⟨fun k=>if k=i then v else vs k,?_,?_⟩
    ·rw [jf l 0 i (fun k=>listed.getD k false) (fun k=>(listed.setIfInBounds i true).getD k false) vs (fun k=>if k=i then v else vs k) a0 o ho' (by simpa using h0') (by simp [hlt]) (fun j hj=>by
      simp only [Nat.zero_add]
      refine⟨getD_set_ne false (Ne.symm hj),by simp [hj]⟩) (fun j k x y hx hy hjk d hd=>(bH hlook hy hx hd).2 (Ne.symm hjk))]
     simp
    ·intro k hkl
     by_cases hki:k=i
     ·subst hki;simpa using En
     ·rw [getD_set_ne false (Ne.symm hki)]at hkl
      simp only [hki,if_false]
      exact hV _ _ _ _ (hv k hkl) hb
  unfold wpOp
  simp only [ho]
  by_cases hw:Region.wanted o (yielded l.toArray (fill 0 l (lk l o) vs a0).tmps)=true
  ·rw [hwant,hw]
   simp only [if_true]
   rw [if_pos hw]at hst
   exact .inl (wp_move (G:=fun v w'=>Below w.heap.size w w'∧V i v w') hp (by rw [dO,dO]) (by rw [cu,cu]) vH (fun K Ul=>hst K (fun v w' hb En=>Ul v w' ⟨hb,En⟩)) (fun v w' hh=>next v w' hh.1 hh.2))
  ·rw [if_neg hw]at hst
   rw [hwant,if_neg hw]
   exact next undef w (Below.refl _ _) hst
theorem wp_region{id:Nat}{w:World}(S:World→Prop)(V:Nat→Value→World→Prop)(hm:P.follows .mixedOrders=true)(hok:okB .any l (pJ .any l)=true)
 (hk:Hd.Keeps S)(hV:∀k v,Hd.Keeps (V k v))(hS:S w)
 (step:steps P l (Rg.Only Q) S V a0 l.length 0 l)
 (fin:∀w:World,S w→all V w (fun a=>Q .normal a w) l.length 0 l a0):
 (Code.region id l.toArray true).wp P Q a0 w:=by
 refine Code.wp_mono (Q:=Rg.Only Q) (fun e a w hh=>?_) ?_
 ·cases e<;>first|exact hh|exact hh.elim
 refine wp_region_any hm (Ad (Q:=Rg.Only Q) hk hV hok (fun c a a' w _ h=>h.elim) l.length (.inl rfl) (fun i o hi ho=>by have:=dM _ 0 l step i o hi ho;rwa [Nat.zero_add]at this) (fun o vs w h=>by simp at h) (fun vs w _ hs hv=>by rw [bZ l 0 (fun _=>true) (fun k=>decide (k<l.length)) vs vs a0 (fun j hj=>by simp [hj])];exact kV l.length 0 l a0 _ vs (fun k=>by rw [Nat.zero_add]) (fun k hk=>by rw [Nat.zero_add];exact hv k hk) (fin w hs)) _ _ a0 _ ?_ ⟨hk _ _ hS (Ext.drew (Below.refl _ _)),?_,by simp,fun i k h=>?_,fun _=>undef,?_,fun k h=>?_⟩)
 ·refine Nat.le_trans (List.length_filter_le _ _) (by simp)
 ·exact aY _ _
 ·rw [aY]at h;cases h
 ·exact(fG l 0 _ _ a0 (fun j=>aY _ _)).symm
 ·rw [aY]at h;cases h
theorem OH{id:Nat}{w:World}(S:World→Prop)(V:Nat→Value→World→Prop)(p:Nat)(ol:Oper)(hm:P.follows .mixedOrders=true)(hok:okB .any l (pJ .any l)=true)
 (hlast:lastB l p (pJ .any l)=true)(hol:l[p]?=some ol)
 (hk:Hd.Keeps S)(hV:∀k v,Hd.Keeps (V k v))(hS:S w)
 (step:steps P l (Rg.Only Q) S V a0 p 0 l)
 (hg:ol.guard=none)
 (last:∀w:World,S w→all V w (fun a=>∀K:Act→World→Prop,(∀a' w',Q .normal a' w'→K a' w')→ol.wp P a w K (Rg.Only Q)) p 0 l a0):
 (Code.region id l.toArray true).wp P Q a0 w:=by
 refine Code.wp_mono (Q:=Rg.Only Q) (fun e a w hh=>?_) ?_
 ·cases e<;>first|exact hh|exact hh.elim
 simp only [lastB,Bool.and_eq_true,decide_eq_true_eq,List.all_eq_true,List.mem_range]at hlast
 refine wp_region_any hm (Ad (Q:=Rg.Only Q) hk hV hok (fun c a a' w _ h=>h.elim) p (.inr ⟨hlast.1,fun k hk=>by simpa using hlast.2 k hk⟩) (fun i o hi ho=>by have:=dM _ 0 l step i o hi ho;rwa [Nat.zero_add]at this) (fun o vs w h hs hv=>?_) (fun vs w h=>by omega) _ _ a0 _ ?_ ⟨hk _ _ hS (Ext.drew (Below.refl _ _)),?_,by simp,fun i k h=>?_,fun _=>undef,?_,fun k h=>?_⟩)
 ·rw [hol]at h;cases h
  exact⟨by unfold Region.wanted;rw [hg],kV p 0 l a0 _ vs (fun k=>by rw [Nat.zero_add]) (fun k hk=>by rw [Nat.zero_add];exact hv k hk) (last w hs) _ (fun _ _ hq=>hq)⟩
 ·refine Nat.le_trans (List.length_filter_le _ _) (by simp)
 ·exact aY _ _
 ·rw [aY]at h;cases h
 ·exact(fG l 0 _ _ a0 (fun j=>aY _ _)).symm
 ·rw [aY]at h;cases h
end
end Iv
end
section
open Go
open Go.RowKit
namespace Ix
open Iv(fill nH put_defers dO cu kL je bZ aY fG jf pJ zh vN iy fM lk needs ask kE eF dN vF qZ all kV all_nil all_cons jM kY qM wp_move vl)
structure Kept where
 f:Value→World→Prop
 h:∀v,Hd.Keeps (f v)
def aA(c:Value):Kept:=⟨fun v _=>v=c,fun _ _ _ h _=>h⟩
def mY(p:Value→Prop):Kept:=⟨fun v _=>p v,fun _ _ _ h _=>h⟩
def dU(p:Value→World→Prop)(h:∀v,Hd.Keeps (p v)):Kept:=⟨p,h⟩
def vk(L:List Kept)(k:Nat):Value→World→Prop:=((L[k]?).map Kept.f).getD (fun _ _=>True)
theorem aN(L:List Kept)(k:Nat)(v:Value):Hd.Keeps (vk L k v):=by
 unfold vk
 cases L[k]? with
 |none=>exact fun _ _ _ _=>trivial
 |some x=>exact x.h v
def gZ(R:World→World→Prop)(S:World→Prop):Prop:=∀w w',S w→R w w'→S w'
def lS(l:List Oper)(p:Nat)(B:List (List Nat)):Bool:=
 (List.range p).all fun i=>match l[i]? with
   |none=>true
   |some o=>(List.range p).all fun j=>match l[j]? with
    |none=>true
    |some o'=>match o'.dst with
     |none=>true
     |some d=>(!(o.looksAt l.toArray).contains d||(B[i]?.getD []).contains j)&&(i==j||o.dst !=some d)
def BG(l:List Oper)(p:Nat)(B:List (List Nat)):Bool:=
 (List.range l.length).all fun i=>decide (i<p)||(List.range i).all fun k=>(B[i]?.getD []).contains k
def okB(md:Region.Mode)(l:List Oper)(p:Nat)(B:List (List Nat)):Bool:=Region.noSelect l.toArray&&zh md l B&&lS l p B&&vN md l&&BG l p B
theorem jX{l:List Oper}{p:Nat}{B:List (List Nat)}(h:BG l p B=true):∀i,p≤i→i<l.length→∀k,k<i→k∈B[i]?.getD []:=by
 intro i hi hil k hk
 unfold BG at h
 rw [List.all_eq_true]at h
 have h1:=h i (List.mem_range.2 hil)
 simp only [Bool.or_eq_true,decide_eq_true_eq,List.all_eq_true,List.mem_range]at h1
 have h2:=(h1.resolve_left (by omega)) k hk
 simpa using h2
theorem bH{l:List Oper}{p:Nat}{B:List (List Nat)}(h:lS l p B=true){i j:Nat}{o o':Oper}(hi:l[i]?=some o)(tq:i<p)(hj:l[j]?=some o')(hjp:j<p){d:Tmp}(hd:o'.dst=some d):
 (d∈o.looksAt l.toArray→j∈B[i]?.getD [])∧(i≠j→o.dst≠some d):=by
 unfold lS at h
 rw [List.all_eq_true]at h
 have h1:=h i (List.mem_range.2 tq)
 simp only [hi]at h1
 rw [List.all_eq_true]at h1
 have h2:=h1 j (List.mem_range.2 hjp)
 simp only [hj,hd,Bool.and_eq_true,Bool.or_eq_true,Bool.not_eq_true',beq_iff_eq,bne_iff_ne,ne_eq]at h2
 refine⟨fun hm=>?_,fun hne=>h2.2.resolve_left hne⟩
 rcases h2.1 with h3|h3
 ·have:(o.looksAt l.toArray).contains d=true:=by simpa using hm
  rw [h3]at this;cases this
 ·simpa using h3
theorem bK{l:List Oper}{p j:Nat}{o:Oper}(h:(l.take p)[j]?=some o):j<p∧l[j]?=some o:=by
 rw [List.getElem?_take]at h
 split at h
 ·exact⟨by assumption,h⟩
 ·cases h
theorem uq{md:Region.Mode}{l:List Oper}(h:vN md l=true){i:Nat}{o:Oper}(hi:l[i]?=some o){e:Edge}(he:e∈o.after)(hb:Region.binds md e=true):e.on<i:=by
 unfold vN at h
 rw [List.all_eq_true]at h
 have h1:=h i (List.mem_range.2 (List.getElem?_eq_some_iff.1 hi).1)
 simp only [hi]at h1
 rw [List.all_eq_true]at h1
 have h2:=h1 e (by simpa using he)
 rw [hb]at h2
 simpa using h2
theorem Vu{md:Region.Mode}{l:List Oper}{B:List (List Nat)}(htab:zh md l B=true)(hdg:vN md l=true):∀(i:Nat),i<l.length→∀k,k∈B[i]?.getD []→k<i:=by
 intro i
 induction i using Nat.strongRecOn with
 |_ i ih=>
  intro hil k hk
  have hi:l[i]?=some l[i]:=List.getElem?_eq_getElem hil
  obtain⟨e,he,hb,hor⟩:=fM htab hi hk
  have hlt:=uq hdg hi he hb
  rcases hor with rfl|hk2
  ·exact hlt
  ·exact Nat.lt_trans (ih _ hlt (by omega) k hk2) hlt
theorem count_set{listed:Array Bool}{i:Nat}(hlt:i<listed.size)(h0:listed.getD i false=false):((listed.setIfInBounds i true).toList.filter (fun b=>!b)).length+1=(listed.toList.filter (fun b=>!b)).length:=by
 rw [Array.toList_setIfInBounds]
 have hlt':i<listed.toList.length:=by simpa using hlt
 have hfalse:listed.toList[i]=false:=by simp [hlt]at h0;simpa using h0
 rw [List.set_eq_take_append_cons_drop,if_pos hlt']
 conv=>rhs;rw [←List.take_append_drop i listed.toList,List.drop_eq_getElem_cons hlt',hfalse]
 simp [List.filter_append];omega
theorem DL{md:Region.Mode}{ops:Array Oper}{listed:Array Bool}(hf:(listed.toList.filter (fun b=>!b)).length≤0):Region.ready md ops listed=[]:=by
 apply List.eq_nil_iff_forall_not_mem.2
 intro j hj
 obtain⟨h0,o,ho,_⟩:=mem_ready.1 hj
 have hlt:j<listed.size:=by
  rcases Nat.lt_or_ge j listed.size with h|h
  ·exact h
  ·simp [Array.getElem?_eq_none h]at h0
 have hmem:false∈listed.toList.filter (fun b=>!b):=by
  rw [List.mem_filter]
  refine⟨?_,rfl⟩
  have e:listed[j]?=some false:=by
   rw [Array.getElem?_eq_getElem hlt]
   simp [hlt]at h0;rw [h0]
  simpa using Array.mem_of_getElem? e
 have hz:=List.eq_nil_of_length_eq_zero (Nat.le_zero.1 hf)
 rw [hz]at hmem
 cases hmem
section
variable{P:Program}{md:Region.Mode}{l:List Oper}{p:Nat}{Q:Exit→Act→World→Prop}{R:World→World→Prop}{S:World→Prop}{V:Nat→Value→World→Prop}{B:List (List Nat)}{a0:Act}{al:Nat→Bool}
theorem ny(htab:zh md l B=true)(hdg:vN md l=true)(hafter:∀i,p≤i→i<l.length→∀k,k<i→k∈B[i]?.getD []):
 ∀(fuel q:Nat)(listed:Array Bool)(a:Act)(w:World),p≤q→q≤l.length→listed.size=l.length→(∀k,k<l.length→listed.getD k false=decide (k<q))→(listed.toList.filter (fun b=>!b)).length≤fuel→
 wpList P l.toArray Q (l.drop q) a w→wpAny P md l.toArray Q fuel listed a w:=by
 have done:∀(q:Nat)(listed:Array Bool)(a:Act)(w:World),q≤l.length→listed.size=l.length→(∀k,k<l.length→listed.getD k false=decide (k<q))→wpList P l.toArray Q (l.drop q) a w→Region.ready md l.toArray listed=[]→Q .normal a w:=by
  intro q listed a w hq hs hex h hr
  have hall:=iy hdg listed hs hr
  have hpe:q=l.length:=by
   rcases Nat.lt_or_ge q l.length with h|h
   ·have h1:=hall q h
    rw [hex q h]at h1;simp at h1
   ·omega
  rw [show l.drop q=[]by rw [hpe];simp]at h
  exact h
 intro fuel
 induction fuel with
 |zero=>
  intro q listed a w hpq hq hs hex hf h
  have hnone:Region.ready md l.toArray listed=[]:=DL hf
  exact⟨hnone,done q listed a w hq hs hex h hnone⟩
 |succ fuel ih=>
  intro q listed a w hpq hq hs hex hf h
  refine⟨done q listed a w hq hs hex h,fun i hir=>?_⟩
  obtain⟨h0,o,ho,hall⟩:=mem_ready.1 hir
  have ho':l[i]?=some o:=by simpa using ho
  have hil:i<l.length:=(List.getElem?_eq_some_iff.1 ho').1
  have hlt:i<listed.size:=by omega
  have h0':listed.getD i false=false:=by simp [hlt]at h0⊢;exact h0
  have hqi:q≤i:=by
   have h1:=hex i hil
   rw [h0']at h1
   simp at h1;exact h1
  have hi:i=q:=by
   rcases Nat.lt_or_ge q i with hlt2|hge
   ·exfalso
    obtain⟨e,he,hb,hor⟩:=fM htab ho' (hafter i (by omega) hil q hlt2)
    have h1:=hall e he hb
    have h2:=uq hdg ho' he hb
    rw [hex e.on (by omega)]at h1
    have h3:e.on<q:=by simpa using h1
    rcases hor with h4|h4
    ·omega
    ·have:=Vu htab hdg e.on (by omega) q h4
     omega
   ·omega
  subst hi
  have hd:l.drop i=o::l.drop (i+1):=by
   rw [List.drop_eq_getElem_cons hil]
   congr 1
   exact(List.getElem?_eq_some_iff.1 ho').2
  rw [hd]at h
  have hrest:∀a w,wpList P l.toArray Q (l.drop (i+1)) a w→wpAny P md l.toArray Q fuel (listed.setIfInBounds i true) a w:=fun a w hh=>
   ih (i+1) _ a w (by omega) (by omega) (by simp [hs]) (fun k hk=>by
    by_cases hki:i=k
    ·subst hki;simp [hlt]
    ·rw [getD_set_ne false hki,hex k hk]
     simp;omega) (by have:=count_set hlt h0';omega) hh
  unfold wpList at h
  unfold wpOp
  simp only [ho]
  split
  ·rename_i hw
   rw [if_pos hw]at h
   rcases h with h|h
   ·exact .inl (Oper.wp_mono hrest h)
   ·exact .inr h
  ·rename_i hw
   rw [if_neg hw]at h
   exact hrest _ _ h
structure goI(P:Program)(l:List Oper)(Q:Exit→Act→World→Prop)(R:World→World→Prop)(V:Nat→Value→World→Prop)(al:Nat→Bool)(i:Nat)(o:Oper)(w:World)(a:Act):Prop where
 of::
 get:if Region.wanted o (yielded l.toArray a.tmps)=true then∀K:Act→World→Prop,(∀v w',R w w'→V i v w'→(al i=true→v=Value.pointer (some ⟨w.heap.size,0,none⟩))→K (a.put o.dst v) w')→o.wp P a w K Q
  else V i undef w∧al i=false
structure dW(P:Program)(l:List Oper)(p:Nat)(Q:Exit→Act→World→Prop)(R:World→World→Prop)(S:World→Prop)(V:Nat→Value→World→Prop)(al:Nat→Bool)(a0:Act)(i:Nat)(o:Oper):Prop where
 of::
 get:∀(vs:Nat→Value)(w:World),S w→(∀k,k<p→lk l o k=true→V k (vs k) w)→goI P l Q R V al i o w (fill 0 (l.take p) (lk l o) vs a0)
theorem jH{i:Nat}{o:Oper}(N:List (Nat×Option Tmp))(hN:decide (needs (o.looksAt l.toArray) 0 (l.take p)=N)=true)(h:∀w,S w→kE V w (goI P l Q R V al i o w) N a0):dW P l p Q R S V al a0 i o:= .of fun vs w hs hv=>
 eF (l.take p) 0 a0 _ vs (fun k o' ho=>by rw [Nat.zero_add];exact kY l o k o' (bK ho).2) (fun k hk hkl=>by rw [Nat.zero_add]at hkl⊢;exact hv k (by simp at hk;omega) hkl)
  (dN (l.take p) 0 a0 (by rw [of_decide_eq_true hN];exact h w hs))
theorem ah{i:Nat}{o:Oper}{w:World}{a:Act}(hw:Region.wanted o (yielded l.toArray a.tmps)=true)(hal:al i=false)
 (h:∀K:Act→World→Prop,(∀v w',R w w'→V i v w'→K (a.put o.dst v) w')→o.wp P a w K Q):goI P l Q R V al i o w a:=by
 refine .of ?_;rw [if_pos hw];exact fun K hK=>h K (fun v w' hr hv=>hK v w' hr hv (fun hh=>by rw [hal]at hh;cases hh))
theorem iV{i:Nat}{o:Oper}{w:World}{a:Act}(hw:Region.wanted o (yielded l.toArray a.tmps)=true)
 (h:∀K:Act→World→Prop,(∀w',R w w'→V i (Value.pointer (some ⟨w.heap.size,0,none⟩)) w'→K (a.put o.dst (Value.pointer (some ⟨w.heap.size,0,none⟩))) w')→o.wp P a w K Q):goI P l Q R V al i o w a:=by
 refine .of ?_;rw [if_pos hw];intro K hK
 exact h K (fun w' hr hv=>hK _ w' hr hv (fun _=>rfl))
theorem EC{i:Nat}{o:Oper}{w:World}{a:Act}(hw:Region.wanted o (yielded l.toArray a.tmps)=false)(hal:al i=false)(h:V i undef w):goI P l Q R V al i o w a:=by
 refine .of ?_;rw [hw];exact⟨h,hal⟩
def steps(P:Program)(l:List Oper)(p:Nat)(Q:Exit→Act→World→Prop)(R:World→World→Prop)(S:World→Prop)(V:Nat→Value→World→Prop)(al:Nat→Bool)(a0:Act):Nat→Nat→List Oper→Prop
 |0,_,_=>True
 |_,_,[]=>True
 |n+1,i,o::rest=>dW P l p Q R S V al a0 i o∧steps P l p Q R S V al a0 n (i+1) rest
theorem fE{n m i j:Nat}{o:Oper}{rest:List Oper}(hj:i+1=j)(hm:m=n+1)(h:dW P l p Q R S V al a0 i o)(hr:steps P l p Q R S V al a0 n j rest):steps P l p Q R S V al a0 m i (o::rest):=by
 subst hj;subst hm;exact⟨h,hr⟩
theorem aC{i:Nat}{rest:List Oper}:steps P l p Q R S V al a0 0 i rest:=by cases rest<;>trivial
theorem dM:∀(n i:Nat)(r:List Oper),steps P l p Q R S V al a0 n i r→∀j o,j<n→r[j]?=some o→dW P l p Q R S V al a0 (i+j) o
 |0,_,_,_,_,_,hj,_=>by omega
 |n+1,_,[],_,_,_,_,ho=>by simp at ho
 |n+1,i,o0::r,h,0,o,_,ho=>by simp at ho;subst ho;exact h.1
 |n+1,i,o0::r,h,j+1,o,hj,ho=>by
  have:=dM n (i+1) r h.2 j o (by omega) (by simpa using ho)
  rw [show i+(j+1)=i+1+j by omega];exact this
theorem jC:∀(n i:Nat)(l:List Oper)(on:Nat→Bool)(vs:Nat→Value)(a:Act),(∀k,on (i+k)=decide (k<n))→fill i l on vs a=fill i (l.take n) on vs a
 |0,i,l,on,vs,a,h=>by
  rw [jM l i on vs a (fun k=>by rw [h];simp)]
  simp [fill]
 |n+1,i,[],on,vs,a,h=>by simp
 |n+1,i,o::l,on,vs,a,h=>by
  simp only [List.take_succ_cons]
  unfold fill
  exact jC n (i+1) l on vs _ (fun k=>by have:=h (k+1);rw [show i+1+k=i+(k+1)by omega,this];simp)
def ru(V:Nat→Value→World→Prop)(vs:Nat→Value)(w:World)(G:Act→Prop):Nat→Nat→List Oper→Act→Prop
 |0,_,_,a=>G a
 |_,_,[],a=>G a
 |n+1,j,o::rest,a=>∀v,vs j=v→V j v w→ru V vs w G n (j+1) rest (a.put o.dst v)
theorem nO{V:Nat→Value→World→Prop}{vs:Nat→Value}{w:World}{G:Act→Prop}:∀(n j:Nat)(l:List Oper)(a:Act)(on:Nat→Bool),
 (∀k,on (j+k)=decide (k<n))→(∀k,k<n→V (j+k) (vs (j+k)) w)→ru V vs w G n j l a→G (fill j l on vs a)
 |0,j,l,a,on,hon,_,h=>by
  rw [jM l j on vs a (fun k=>by rw [hon];simp)]
  cases l<;>exact h
 |n+1,_,[],_,_,_,_,h=>h
 |n+1,j,o::l,a,on,hon,hv,h=>by
  unfold fill
  have h0:=hon 0
  simp only [Nat.add_zero]at h0
  rw [h0]
  simp only [Nat.zero_lt_succ,decide_true,if_true]
  exact nO n (j+1) l _ on (fun k=>by have:=hon (k+1);rw [show j+1+k=j+(k+1)by omega,this];simp) (fun k hk=>by
   have:=hv (k+1) (by omega);rwa [show j+(k+1)=j+1+k by omega]at this) (h _ rfl (by have:=hv 0 (by omega);simpa using this))
theorem aI{V:Nat→Value→World→Prop}{vs:Nat→Value}{w:World}{G:Act→Prop}{j:Nat}{l:List Oper}{a:Act}(h:G a):ru V vs w G 0 j l a:=by cases l<;>exact h
theorem rH{V:Nat→Value→World→Prop}{vs:Nat→Value}{w:World}{G:Act→Prop}{n m j k:Nat}{o:Oper}{l:List Oper}{a:Act}(hj:j+1=k)(hm:m=n+1)(h:∀v,vs j=v→V j v w→ru V vs w G n k l (a.put o.dst v)):ru V vs w G m j (o::l) a:=by
 subst hj;subst hm;exact h
def eY(Q:Exit→Act→World→Prop):Exit→Act→World→Prop
 | .normal,a,w=>Q .normal a w
 | .panic c,a,w=>∀t,Q (.panic c) ⟨t,a.defers⟩ w
 |_,_,_=>False
theorem mO{Q:Exit→Act→World→Prop}:∀c a a' w,Act.defers a=Act.defers a'→eY Q (.panic c) a w→eY Q (.panic c) a' w:=fun c a a' w hd h t=>by have:=h t;rw [hd]at this;exact this
theorem dK{c:List PanicEntry}{a:Act}{w:World}(h:∀t,Q (.panic c) ⟨t,a.defers⟩ w):eY Q (.panic c) a w:=h
theorem rC{e:Exit}{a:Act}{w:World}(h:eY Q e a w):Q e a w:=by cases e<;>first|exact h|exact h.elim|exact h a.tmps
theorem only{a:Act}{w:World}(h:Q .normal a w):eY Q .normal a w:=h
theorem nil{P:Program}{ops:Array Oper}{a:Act}{w:World}(h:Q .normal a w):wpList P ops (eY Q) [] a w:=h
theorem bP(V:Nat→Value→World→Prop):∀j v w,(fun _:Nat=>false) j=true→V j v w→∃b,v=Value.pointer (some ⟨b,0,none⟩)∧b<w.heap.size:=fun _ _ _ h=>by cases h
structure Inv(l:List Oper)(S:World→Prop)(V:Nat→Value→World→Prop)(B:List (List Nat))(al:Nat→Bool)(a0:Act)(p:Nat)(listed:Array Bool)(a:Act)(w:World):Prop where
 s:S w
 no:listed.getD p false=false
 sz:listed.size=l.length
 cl:∀i k,listed.getD i false=true→k∈B[i]?.getD []→listed.getD k false=true
 v:∃vs:Nat→Value,a=fill 0 (l.take p) (fun k=>listed.getD k false) vs a0∧(∀k,listed.getD k false=true→V k (vs k) w)∧∀i j,al i=true→al j=true→i≠j→listed.getD i false=true→listed.getD j false=true→vs i≠vs j
theorem Ad(hR:∀w,R w w)(hk:gZ R S)(hV:∀k v,gZ R (V k v))(hok:okB md l p B=true)(hp:∀c a a' w,a.defers=a'.defers→Q (.panic c) a w→Q (.panic c) a' w)(hpl:p≤l.length)
 (step:∀i o,i<p→l[i]?=some o→dW P l p Q R S V al a0 i o)
 (hal:∀j v w,al j=true→V j v w→∃b,v=Value.pointer (some ⟨b,0,none⟩)∧b<w.heap.size)
 (tail:∀(vs:Nat→Value)(w:World),S w→(∀k,k<p→V k (vs k) w)→(∀i j,i<p→j<p→al i=true→al j=true→i≠j→vs i≠vs j)→wpList P l.toArray Q (l.drop p) (fill 0 (l.take p) (fun k=>decide (k<p)) vs a0) w):
 ∀(fuel:Nat)(listed:Array Bool)(a:Act)(w:World),(listed.toList.filter (fun b=>!b)).length≤fuel→Inv l S V B al a0 p listed a w→wpAny P md l.toArray Q fuel listed a w:=by
 simp only [okB,Bool.and_eq_true]at hok
 obtain⟨⟨⟨⟨hsel,htab⟩,hlook⟩,hdg⟩,htl⟩:=hok
 have hafter:=jX htl
 have hdag:=iy hdg
 have done:∀(listed:Array Bool)(a:Act)(w:World),Inv l S V B al a0 p listed a w→Region.ready md l.toArray listed=[]→Q .normal a w:=by
  intro listed a w hi hr
  have hall:=hdag listed hi.sz hr
  have hpe:p=l.length:=by
   rcases Nat.lt_or_ge p l.length with h|h
   ·have:=hall p h
    rw [hi.no]at this;cases this
   ·omega
  obtain⟨vs,rfl,hv,hds⟩:=hi.v
  have ht:=tail vs w hi.s (fun k hk=>hv k (hall k (by omega))) (fun i j tq hjp hi hj hne=>hds i j hi hj hne (hall i (by omega)) (hall j (by omega)))
  rw [show l.drop p=[]by rw [hpe];simp]at ht
  rw [bZ (l.take p) 0 _ (fun k=>decide (k<p)) vs vs a0 (fun j hj=>⟨by simp only [Nat.zero_add];rw [hall j (by simp at hj;omega)];simp at hj;simp;omega,fun _=>rfl⟩)]
  exact ht
 intro fuel
 induction fuel with
 |zero=>
  intro listed a w hf hi
  have hnone:Region.ready md l.toArray listed=[]:=by
   apply List.eq_nil_iff_forall_not_mem.2
   intro j hj
   obtain⟨h0,o,ho,_⟩:=mem_ready.1 hj
   have hlt:j<listed.size:=by
    rcases Nat.lt_or_ge j listed.size with h|h
    ·exact h
    ·simp [Array.getElem?_eq_none h]at h0
   have hmem:false∈listed.toList.filter (fun b=>!b):=by
    rw [List.mem_filter]
    refine⟨?_,rfl⟩
    have e:listed[j]?=some false:=by
     rw [Array.getElem?_eq_getElem hlt]
     simp [hlt]at h0;rw [h0]
    simpa using Array.mem_of_getElem? e
   have hz:=List.eq_nil_of_length_eq_zero (Nat.le_zero.1 hf)
   rw [hz]at hmem
   cases hmem
  exact⟨hnone,done listed a w hi hnone⟩
 |succ fuel ih=>
  intro listed a w hf hi
  refine⟨done listed a w hi,fun i hir=>?_⟩
  obtain⟨h0,o,ho,hall⟩:=mem_ready.1 hir
  have ho':l[i]?=some o:=by simpa using ho
  have hlt:i<listed.size:=by
   rcases Nat.lt_or_ge i listed.size with h|h
   ·exact h
   ·simp [Array.getElem?_eq_none h]at h0
  have h0':listed.getD i false=false:=by simp [hlt]at h0⊢;exact h0
  have hB:∀k∈B[i]?.getD [],listed.getD k false=true:=by
   intro k hk
   obtain⟨e,he,hb,hor⟩:=fM htab ho' hk
   have:=hall e he hb
   rcases hor with rfl|hk2
   ·exact this
   ·exact hi.cl _ _ this hk2
  have hil:i<l.length:=(List.getElem?_eq_some_iff.1 ho').1
  by_cases Ej:p≤i
  ·have tq:i=p:=by
    rcases Nat.lt_or_ge p i with h|h
    ·have:=hB p (hafter i Ej hil p h)
     rw [hi.no]at this;cases this
    ·omega
   subst tq
   obtain⟨vs,rfl,hv,hds⟩:=hi.v
   have hex:∀k,k<l.length→listed.getD k false=decide (k<i):=fun k hk=>by
    by_cases hki:k<i
    ·rw [hB k (hafter i (Nat.le_refl _) hil k hki)];simp [hki]
    ·by_cases hke:k=i
     ·subst hke;rw [h0'];simp
     ·cases hl:listed.getD k false with
      |false=>simp [hki]
      |true=>have:=hi.cl k i hl (hafter k (by omega) hk i (by omega));rw [h0']at this;cases this
   have ht:=tail vs w hi.s (fun k hk=>hv k (by rw [hex k (by omega)];simp [hk])) (fun i' j' tq hjp hi' hj' hne=>hds i' j' hi' hj' hne (by rw [hex i' (by omega)];simp [tq]) (by rw [hex j' (by omega)];simp [hjp]))
   rw [←bZ (l.take i) 0 (fun k=>listed.getD k false) (fun k=>decide (k<i)) vs vs a0 (fun j hj=>⟨by simp only [Nat.zero_add];exact hex j (by simp at hj;omega),fun _=>rfl⟩)]at ht
   exact(ny htab hdg hafter (fuel+1) i listed _ w (Nat.le_refl _) (Nat.le_of_lt hil) hi.sz hex hf ht).2 i hir
  have tq:¬i=p:=by omega
  have oJ:i<p:=by omega
  obtain⟨vs,rfl,hv,hds⟩:=hi.v
  have Em:∀k,k<p→lk l o k=true→k∈B[i]?.getD []:=by
   intro k hkp hk
   unfold lk at hk
   cases hlk:l[k]? with
   |none=>rw [hlk]at hk;cases hk
   |some o'=>
    rw [hlk]at hk
    cases hd:o'.dst with
    |none=>simp only [hd]at hk;cases hk
    |some d=>simp only [hd]at hk;exact(bH hlook ho' oJ hlk hkp hd).1 (by simpa using hk)
  have hst:=(step i o oJ ho').get vs w hi.s (fun k hkp hk=>hv k (hB k (Em k hkp hk)))
  replace hst:=hst.get
  have same:∀t∈o.looksAt l.toArray,(fill 0 (l.take p) (lk l o) vs a0).tmps[t]?=(fill 0 (l.take p) (fun k=>listed.getD k false) vs a0).tmps[t]?:=by
   intro t ht
   refine je (l.take p) 0 _ _ vs vs a0 a0 t rfl rfl (fun j o' hj hd=>?_)
   obtain⟨hjp,hj⟩:=bK hj
   have hm:=(bH hlook ho' oJ hj hjp hd).1 ht
   simp only [Nat.zero_add]
   rw [hB j hm,kY l o j o' hj,hd]
   refine⟨by simpa using ht,by intros;trivial⟩
  have hwant:Region.wanted o (yielded l.toArray (fill 0 (l.take p) (fun k=>listed.getD k false) vs a0).tmps)=Region.wanted o (yielded l.toArray (fill 0 (l.take p) (lk l o) vs a0).tmps):=by
   unfold Region.wanted
   cases hg:o.guard with
   |none=>rfl
   |some gw=>
    obtain⟨g,want⟩:=gw
    have hy:yielded l.toArray (fill 0 (l.take p) (fun k=>listed.getD k false) vs a0).tmps g=yielded l.toArray (fill 0 (l.take p) (lk l o) vs a0).tmps g:=by
     unfold yielded
     cases ht:(l.toArray[g]?).bind (·.dst)with
     |none=>rfl
     |some t=>
      have:=same t (by simp only [Oper.looksAt,hg,ht];simp)
      simp only [Option.bind_some,this]
    simp only [hy]
  have vH:execOp (fill 0 (l.take p) (fun k=>listed.getD k false) vs a0).eval o=execOp (fill 0 (l.take p) (lk l o) vs a0).eval o:=by
   refine execOp_congr o (Region.noSelect_spec hsel i o · · ho) (fun x hx=>?_)
   cases x with
   |tmp t=>
    have:=same t (by unfold Oper.looksAt;exact List.mem_append_left _ (List.mem_filterMap.2 ⟨.tmp t,by simpa using hx,rfl⟩))
    show Array.getD _ t undef=Array.getD _ t undef
    rw [Array.getD_eq_getD_getElem?,Array.getD_eq_getD_getElem?,this]
   |_=>rfl
  have next:∀v w',R w w'→V i v w'→(al i=true→v=Value.pointer (some ⟨w.heap.size,0,none⟩))→wpAny P md l.toArray Q fuel (listed.setIfInBounds i true) ((fill 0 (l.take p) (fun k=>listed.getD k false) vs a0).put o.dst v) w':=by
   intro v w' hb En hnew
   refine ih _ _ _ ?_ ⟨hk _ _ hi.s hb,by rw [getD_set_ne false tq];exact hi.no,by simp [hi.sz],?_,?_⟩
   ·have:((listed.setIfInBounds i true).toList.filter (fun b=>!b)).length+1=(listed.toList.filter (fun b=>!b)).length:=by
     rw [Array.toList_setIfInBounds]
     have hlt':i<listed.toList.length:=by simpa using hlt
     have hfalse:listed.toList[i]=false:=by simp [hlt]at h0';simpa using h0'
     rw [List.set_eq_take_append_cons_drop,if_pos hlt']
     conv=>rhs;rw [←List.take_append_drop i listed.toList,List.drop_eq_getElem_cons hlt',hfalse]
     simp [List.filter_append];omega
    omega
   ·intro j k hj hkB
    by_cases hji:i=j
    ·subst hji;exact getD_set_true (hB k hkB)
    ·rw [getD_set_ne false hji]at hj
     exact getD_set_true (hi.cl j k hj hkB)
   ·refine⟨fun k=>if k=i then v else vs k,?_,?_,?_⟩
    ·rw [jf (l.take p) 0 i (fun k=>listed.getD k false) (fun k=>(listed.setIfInBounds i true).getD k false) vs (fun k=>if k=i then v else vs k) a0 o (by rw [List.getElem?_take];simp [oJ,ho']) (by simpa using h0') (by simp [hlt]) (fun j hj=>by
      simp only [Nat.zero_add]
      refine⟨getD_set_ne false (Ne.symm hj),by simp [hj]⟩) (fun j k x y hx hy hjk d hd=>(bH hlook (bK hy).2 (bK hy).1 (bK hx).2 (bK hx).1 hd).2 (Ne.symm hjk))]
     simp
    ·intro k hkl
     by_cases hki:k=i
     ·subst hki;simpa using En
     ·rw [getD_set_ne false (Ne.symm hki)]at hkl
      simp only [hki,if_false]
      exact hV _ _ _ _ (hv k hkl) hb
    ·intro i' j' hai haj hne LW hlj
     by_cases hi1:i'=i
     ·have hj1:¬j'=i:=fun e=>hne (hi1.trans e.symm)
      rw [getD_set_ne false (Ne.symm hj1)]at hlj
      simp only [hi1,if_true,hj1,if_false]
      rw [hi1]at hai
      obtain⟨b,eb,hlb⟩:=hal j' _ w haj (hv j' hlj)
      rw [hnew hai,eb]
      intro e
      injection e with e;injection e with e;injection e with e
      omega
     ·rw [getD_set_ne false (Ne.symm hi1)]at LW
      by_cases hj1:j'=i
      ·simp only [hi1,if_false,hj1,if_true]
       rw [hj1]at haj
       obtain⟨b,eb,hlb⟩:=hal i' _ w hai (hv i' LW)
       rw [hnew haj,eb]
       intro e
       injection e with e;injection e with e;injection e with e
       omega
      ·rw [getD_set_ne false (Ne.symm hj1)]at hlj
       simp only [hi1,if_false,hj1,if_false]
       exact hds i' j' hai haj hne LW hlj
  unfold wpOp
  simp only [ho]
  by_cases hw:Region.wanted o (yielded l.toArray (fill 0 (l.take p) (lk l o) vs a0).tmps)=true
  ·rw [hwant,hw]
   simp only [if_true]
   rw [if_pos hw]at hst
   exact .inl (wp_move (G:=fun v w'=>R w w'∧V i v w'∧(al i=true→v=Value.pointer (some ⟨w.heap.size,0,none⟩))) hp (by rw [dO,dO]) (by rw [cu,cu]) vH (fun K Ul=>hst K (fun v w' hb En hn=>Ul v w' ⟨hb,En,hn⟩)) (fun v w' hh=>next v w' hh.1 hh.2.1 hh.2.2))
  ·rw [if_neg hw]at hst
   rw [hwant,if_neg hw]
   exact next undef w (hR w) hst.1 (fun hh=>by rw [hst.2]at hh;cases hh)
theorem Fa{id:Nat}{w:World}(p:Nat)(R:World→World→Prop)(S:World→Prop)(V:Nat→Value→World→Prop)(al:Nat→Bool)(hm:P.follows .mixedOrders=true)(hok:okB .any l p (pJ .any l)=true)(hpl:decide (p≤l.length)=true)
 (hR:∀w,R w w)(hk:gZ R S)(hV:∀k v,gZ R (V k v))(hal:∀j v w,al j=true→V j v w→∃b,v=Value.pointer (some ⟨b,0,none⟩)∧b<w.heap.size)(hS:S w.drew)
 (step:steps P l p (eY Q) R S V al a0 p 0 l)
 (fin:∀(vs:Nat→Value)(w:World),S w→(∀i j,i<p→j<p→al i=true→al j=true→i≠j→vs i≠vs j)→ru V vs w (fun a=>wpList P l.toArray (eY Q) (l.drop p) a w) p 0 l a0):
 (Code.region id l.toArray true).wp P Q a0 w:=by
 refine Code.wp_mono (Q:=eY Q) (fun e a w hh=>?_) ?_
 ·exact rC hh
 refine wp_region_any hm (Ad (Q:=eY Q) hR hk hV hok mO (of_decide_eq_true hpl) (fun i o hi ho=>by have:=dM _ 0 l step i o hi ho;rwa [Nat.zero_add]at this) hal
  (fun vs w hs hv hd=>by rw [←jC p 0 l (fun k=>decide (k<p)) vs a0 (fun k=>by rw [Nat.zero_add])];exact nO (G:=fun a=>wpList P l.toArray (eY Q) (l.drop p) a w) p 0 l a0 _ (fun k=>by rw [Nat.zero_add]) (fun k hk=>by rw [Nat.zero_add];exact hv k hk) (fin vs w hs hd)) _ _ a0 _ ?_ ⟨hS,?_,by simp,fun i k h=>?_,fun _=>undef,?_,fun k h=>?_,fun i j _ _ _ h=>?_⟩)
 ·refine Nat.le_trans (List.length_filter_le _ _) (by simp)
 ·exact aY _ _
 ·rw [aY]at h;cases h
 ·exact(fG (l.take p) 0 _ _ a0 (fun j=>aY _ _)).symm
 ·rw [aY]at h;cases h
 ·rw [aY]at h;cases h
abbrev Rb(w w':World):Prop:=Below w.heap.size w w'
theorem wp_region{id:Nat}{w:World}(p:Nat)(S:World→Prop)(V:Nat→Value→World→Prop)(al:Nat→Bool)(hm:P.follows .mixedOrders=true)(hok:okB .any l p (pJ .any l)=true)(hpl:decide (p≤l.length)=true)
 (hk:Hd.Keeps S)(hV:∀k v,Hd.Keeps (V k v))(hal:∀j v w,al j=true→V j v w→∃b,v=Value.pointer (some ⟨b,0,none⟩)∧b<w.heap.size)(hS:S w)
 (step:steps P l p (eY Q) Rb S V al a0 p 0 l)
 (fin:∀(vs:Nat→Value)(w:World),S w→(∀i j,i<p→j<p→al i=true→al j=true→i≠j→vs i≠vs j)→ru V vs w (fun a=>wpList P l.toArray (eY Q) (l.drop p) a w) p 0 l a0):
 (Code.region id l.toArray true).wp P Q a0 w:=
 Fa p Rb S V al hm hok hpl (fun w=>Below.refl _ _) hk hV hal (hk _ _ hS (Ext.drew (Below.refl _ _))) step fin
end
end Ix
end
section
open Go
open Go.RowKit
namespace Iy
open Iv(fill nH put_defers dO cu kL je bZ aY fG jf pJ zh vN iy fM lk needs ask kE eF dN vF qZ all kV all_nil all_cons jM kY qM wp_move vl)
open Ix(gZ okB bK lS bH BG jX uq Vu ny ru nO aI rH jC only nil)
section
variable{P:Program}{l:List Oper}{Q:Exit→Act→World→Prop}{R:World→World→Prop}{S:Nat→(Nat→Value)→World→Prop}{need:Nat→List Nat}{V:Nat→Value→World→Prop}{al:Nat→Bool}{a0:Act}{md:Region.Mode}{p:Nat}{cs:List Nat}{B:List (List Nat)}
def ph(cs:List Nat)(listed:Array Bool):Nat:=(cs.filter (fun k=>listed.getD k false)).length
def wR(cs:List Nat)(p:Nat)(B:List (List Nat)):Bool:=
 (List.range cs.length).all fun j=>decide (cs.getD j 0<p)&&(List.range j).all fun i=>(B[cs.getD j 0]?.getD []).contains (cs.getD i 0)&&cs.getD i 0 !=cs.getD j 0
theorem iC{cs:List Nat}{p:Nat}{B:List (List Nat)}(h:wR cs p B=true){i j:Nat}(hij:i<j)(hj:j<cs.length):cs.getD i 0∈B[cs.getD j 0]?.getD []∧cs.getD i 0≠cs.getD j 0:=by
 unfold wR at h
 rw [List.all_eq_true]at h
 have h1:=h j (List.mem_range.2 hj)
 rw [Bool.and_eq_true,List.all_eq_true]at h1
 have h2:=h1.2 i (List.mem_range.2 hij)
 rw [Bool.and_eq_true]at h2
 exact⟨by simpa using h2.1,by simpa using h2.2⟩
theorem qp{cs:List Nat}{p:Nat}{B:List (List Nat)}(h:wR cs p B=true){j:Nat}(hj:j<cs.length):cs.getD j 0<p:=by
 unfold wR at h
 rw [List.all_eq_true]at h
 have h1:=h j (List.mem_range.2 hj)
 rw [Bool.and_eq_true]at h1
 simpa using h1.1
theorem vG{cs:List Nat}{listed:Array Bool}(h:∀k∈cs,listed.getD k false=true):ph cs listed=cs.length:=by
 unfold ph
 rw [List.filter_eq_self.2 (fun k hk=>h k hk)]
theorem nC{cs:List Nat}{listed:Array Bool}{i:Nat}(h:i∉cs):ph cs (listed.setIfInBounds i true)=ph cs listed:=by
 unfold ph
 congr 1
 refine List.filter_congr (fun k hk=>?_)
 have:i≠k:=fun e=>h (e▸hk)
 exact getD_set_ne false this
theorem sF:∀(cs:List Nat)(listed:Array Bool)(j:Nat),j≤cs.length→(∀i,i<j→listed.getD (cs.getD i 0) false=true)→(∀i,j≤i→i<cs.length→listed.getD (cs.getD i 0) false=false)→ph cs listed=j
 |[],_,j,hj,_,_=>by simp at hj;subst hj;rfl
 |k::cs,listed,0,_,_,h0=>by
  unfold ph
  rw [List.filter_eq_nil_iff.2 (fun x hx=>?_)];·rfl
  obtain⟨i,hi,rfl⟩:=List.mem_iff_getElem.1 hx
  have:=h0 i (Nat.zero_le _) hi
  rw [List.getD_eq_getElem?_getD,List.getElem?_eq_getElem hi]at this
  simp at this⊢;exact this
 |k::cs,listed,j+1,hj,h1,h0=>by
  have h:=sF cs listed j (by simp at hj;omega) (fun i hi=>by have:=h1 (i+1) (by omega);simpa using this) (fun i hi hl=>by have:=h0 (i+1) (by omega) (by simp;omega);simpa using this)
  have hk:=h1 0 (by omega)
  unfold ph at h⊢
  simp only [List.getD_cons_zero]at hk
  rw [List.filter_cons,if_pos hk,List.length_cons,h]
def pK(cs:List Nat)(need:Nat→List Nat)(B:List (List Nat)):Bool:=(need 0).isEmpty&&(List.range cs.length).all fun j=>(need (j+1)).all fun k=>(B[cs.getD j 0]?.getD []).contains k
theorem lV{cs:List Nat}{need:Nat→List Nat}{B:List (List Nat)}(h:pK cs need B=true):need 0=[]:=by
 unfold pK at h;rw [Bool.and_eq_true]at h;simpa using h.1
theorem iT{cs:List Nat}{need:Nat→List Nat}{B:List (List Nat)}(h:pK cs need B=true){j k:Nat}(hj:j<cs.length)(hk:k∈need (j+1)):k∈B[cs.getD j 0]?.getD []:=by
 unfold pK at h
 rw [Bool.and_eq_true,List.all_eq_true]at h
 have h1:=h.2 j (List.mem_range.2 hj)
 rw [List.all_eq_true]at h1
 simpa using h1 k hk
theorem tY{cs:List Nat}{p:Nat}{B:List (List Nat)}{listed:Array Bool}(hoc:wR cs p B=true)(hcl:∀i k,listed.getD i false=true→k∈B[i]?.getD []→listed.getD k false=true){m:Nat}(hm:ph cs listed=m+1)(hml:m<cs.length):listed.getD (cs.getD m 0) false=true:=by
 cases hl:listed.getD (cs.getD m 0) false with
 |true=>rfl
 |false=>
  exfalso
  have hb:∀i,m≤i→i<cs.length→listed.getD (cs.getD i 0) false=false:=fun i h1 h2=>by
   rcases Nat.lt_or_ge m i with h|h
   ·cases hl2:listed.getD (cs.getD i 0) false with
    |false=>rfl
    |true=>have:=hcl _ _ hl2 ((iC hoc h h2).1);rw [hl]at this;cases this
   ·obtain rfl:i=m:=by omega
    exact hl
  have hle:∀(cs:List Nat)(m:Nat),(∀i,m≤i→i<cs.length→listed.getD (cs.getD i 0) false=false)→ph cs listed≤m:=by
   intro cs
   induction cs with
   |nil=>intro m _;exact Nat.zero_le _
   |cons k cs ih=>
    intro m h
    unfold ph at ih⊢
    cases m with
    |zero=>
     have h0:=h 0 (Nat.le_refl _) (by simp)
     simp only [List.getD_cons_zero]at h0
     rw [List.filter_cons,if_neg (by rw [h0];simp)]
     exact ih 0 (fun i hi hl=>by have:=h (i+1) (by omega) (by simp;omega);simpa using this)
    |succ m=>
     have:=ih m (fun i hi hl=>by have:=h (i+1) (by omega) (by simp;omega);simpa using this)
     rw [List.filter_cons]
     split
     ·rw [List.length_cons];omega
     ·omega
  have:=hle cs m hb
  omega
structure goI(P:Program)(l:List Oper)(Q:Exit→Act→World→Prop)(T:World→World→Prop)(V:Nat→Value→World→Prop)(al:Nat→Bool)(no:Prop)(i:Nat)(o:Oper)(w:World)(a:Act):Prop where
 of::
 get:if Region.wanted o (yielded l.toArray a.tmps)=true then∀K:Act→World→Prop,(∀v w',T w w'→V i v w'→(al i=true→v=Value.pointer (some ⟨w.heap.size,0,none⟩))→K (a.put o.dst v) w')→o.wp P a w K Q
  else V i undef w∧al i=false∧no
structure dW(P:Program)(l:List Oper)(p:Nat)(Q:Exit→Act→World→Prop)(R:World→World→Prop)(S:Nat→(Nat→Value)→World→Prop)(V:Nat→Value→World→Prop)(al:Nat→Bool)(cs:List Nat)(a0:Act)(i:Nat)(o:Oper):Prop where
 of::
 get:(i∉cs→∀(vs:Nat→Value)(n:Nat)(w:World),S n vs w→(∀k,k<p→lk l o k=true→V k (vs k) w)→goI P l Q R V al True i o w (fill 0 (l.take p) (lk l o) vs a0))∧
  (∀j,j<cs.length→cs.getD j 0=i→∀(vs:Nat→Value)(w:World),S j vs w→(∀k,k<p→lk l o k=true→V k (vs k) w)→goI P l Q (fun w w'=>S (j+1) vs w'∧∀k,k≠i→V k (vs k) w→V k (vs k) w') V al False i o w (fill 0 (l.take p) (lk l o) vs a0))
theorem jH{i:Nat}{o:Oper}(N:List (Nat×Option Tmp))(hN:decide (needs (o.looksAt l.toArray) 0 (l.take p)=N)=true)(hc:cs.contains i=false)(h:∀n vs w,S n vs w→kE V w (goI P l Q R V al True i o w) N a0):dW P l p Q R S V al cs a0 i o:= .of ⟨fun _ vs n w hs hv=>
 eF (l.take p) 0 a0 _ vs (fun k o' ho=>by rw [Nat.zero_add];exact kY l o k o' (bK ho).2) (fun k hk hkl=>by rw [Nat.zero_add]at hkl⊢;exact hv k (by simp at hk;omega) hkl)
  (dN (l.take p) 0 a0 (by rw [of_decide_eq_true hN];exact h n vs w hs)),fun j hj e=>by
    exfalso
    have:i∈cs:=by rw [←e,List.getD_eq_getElem?_getD,List.getElem?_eq_getElem hj];simp
    simp [this]at hc⟩
theorem rE{i:Nat}{o:Oper}(j:Nat)(N:List (Nat×Option Tmp))(hN:decide (needs (o.looksAt l.toArray) 0 (l.take p)=N)=true)(hc:decide (j<cs.length∧cs.getD j 0=i∧∀j'∈List.range cs.length,cs.getD j' 0=i→j'=j)=true)(h:∀vs w,S j vs w→kE (fun k v w=>V k v w∧vs k=v) w (goI P l Q (fun w w'=>S (j+1) vs w'∧∀k,k≠i→V k (vs k) w→V k (vs k) w') V al False i o w) N a0):dW P l p Q R S V al cs a0 i o:= .of ⟨fun hn=>by
 exfalso
 obtain⟨h1,h2,_⟩:=of_decide_eq_true hc
 apply hn;rw [←h2,List.getD_eq_getElem?_getD,List.getElem?_eq_getElem h1];simp,fun j' hj e vs w hs hv=>by
 obtain⟨h1,h2,h3⟩:=of_decide_eq_true hc
 obtain rfl:=h3 j' (List.mem_range.2 hj) e
 exact eF (V:=fun k v w=>V k v w∧vs k=v) (l.take p) 0 a0 _ vs (fun k o' ho=>by rw [Nat.zero_add];exact kY l o k o' (bK ho).2) (fun k hk hkl=>by rw [Nat.zero_add]at hkl⊢;exact⟨hv k (by simp at hk;omega) hkl,rfl⟩)
  (dN (l.take p) 0 a0 (by rw [of_decide_eq_true hN];exact h vs w hs))⟩
theorem ah{T:World→World→Prop}{no:Prop}{i:Nat}{o:Oper}{w:World}{a:Act}(hw:Region.wanted o (yielded l.toArray a.tmps)=true)(hal:al i=false)
 (h:∀K:Act→World→Prop,(∀v w',T w w'→V i v w'→K (a.put o.dst v) w')→o.wp P a w K Q):goI P l Q T V al no i o w a:=by
 refine .of ?_;rw [if_pos hw];exact fun K hK=>h K (fun v w' hr hv=>hK v w' hr hv (fun hh=>by rw [hal]at hh;cases hh))
theorem iV{T:World→World→Prop}{no:Prop}{i:Nat}{o:Oper}{w:World}{a:Act}(hw:Region.wanted o (yielded l.toArray a.tmps)=true)
 (h:∀K:Act→World→Prop,(∀w',T w w'→V i (Value.pointer (some ⟨w.heap.size,0,none⟩)) w'→K (a.put o.dst (Value.pointer (some ⟨w.heap.size,0,none⟩))) w')→o.wp P a w K Q):goI P l Q T V al no i o w a:=by
 refine .of ?_;rw [if_pos hw];intro K hK
 exact h K (fun w' hr hv=>hK _ w' hr hv (fun _=>rfl))
theorem EC{T:World→World→Prop}{no:Prop}{i:Nat}{o:Oper}{w:World}{a:Act}(hw:Region.wanted o (yielded l.toArray a.tmps)=false)(hal:al i=false)(hno:no)(h:V i undef w):goI P l Q T V al no i o w a:=by
 refine .of ?_;rw [hw];exact⟨h,hal,hno⟩
def steps(P:Program)(l:List Oper)(p:Nat)(Q:Exit→Act→World→Prop)(R:World→World→Prop)(S:Nat→(Nat→Value)→World→Prop)(V:Nat→Value→World→Prop)(al:Nat→Bool)(cs:List Nat)(a0:Act):Nat→Nat→List Oper→Prop
 |0,_,_=>True
 |_,_,[]=>True
 |n+1,i,o::rest=>dW P l p Q R S V al cs a0 i o∧steps P l p Q R S V al cs a0 n (i+1) rest
theorem fE{n m i j:Nat}{o:Oper}{rest:List Oper}(hj:i+1=j)(hm:m=n+1)(h:dW P l p Q R S V al cs a0 i o)(hr:steps P l p Q R S V al cs a0 n j rest):steps P l p Q R S V al cs a0 m i (o::rest):=by
 subst hj;subst hm;exact⟨h,hr⟩
theorem aC{i:Nat}{rest:List Oper}:steps P l p Q R S V al cs a0 0 i rest:=by cases rest<;>trivial
theorem dM:∀(n i:Nat)(r:List Oper),steps P l p Q R S V al cs a0 n i r→∀j o,j<n→r[j]?=some o→dW P l p Q R S V al cs a0 (i+j) o
 |0,_,_,_,_,_,hj,_=>by omega
 |n+1,_,[],_,_,_,_,ho=>by simp at ho
 |n+1,i,o0::r,h,0,o,_,ho=>by simp at ho;subst ho;exact h.1
 |n+1,i,o0::r,h,j+1,o,hj,ho=>by
  have:=dM n (i+1) r h.2 j o (by omega) (by simpa using ho)
  rw [show i+(j+1)=i+1+j by omega];exact this
structure Inv(l:List Oper)(S:Nat→(Nat→Value)→World→Prop)(V:Nat→Value→World→Prop)(B:List (List Nat))(al:Nat→Bool)(cs:List Nat)(a0:Act)(p:Nat)(listed:Array Bool)(a:Act)(w:World):Prop where
 no:listed.getD p false=false
 sz:listed.size=l.length
 cl:∀i k,listed.getD i false=true→k∈B[i]?.getD []→listed.getD k false=true
 v:∃vs:Nat→Value,S (ph cs listed) vs w∧a=fill 0 (l.take p) (fun k=>listed.getD k false) vs a0∧(∀k,listed.getD k false=true→V k (vs k) w)∧∀i j,al i=true→al j=true→i≠j→listed.getD i false=true→listed.getD j false=true→vs i≠vs j
theorem Ad(hR:∀w,R w w)(hk:∀n vs,gZ R (S n vs))(hoc:wR cs p B=true)(hnd:∀n vs vs' w,(∀k,k∈need n→vs k=vs' k)→S n vs w→S n vs' w)(hnb:pK cs need B=true)(hV:∀k v,gZ R (V k v))(hok:okB md l p B=true)(hp:∀c a a' w,a.defers=a'.defers→Q (.panic c) a w→Q (.panic c) a' w)(hpl:p≤l.length)
 (step:∀i o,i<p→l[i]?=some o→dW P l p Q R S V al cs a0 i o)
 (hal:∀j v w,al j=true→V j v w→∃b,v=Value.pointer (some ⟨b,0,none⟩)∧b<w.heap.size)
 (tail:∀(vs:Nat→Value)(w:World),S cs.length vs w→(∀k,k<p→V k (vs k) w)→(∀i j,i<p→j<p→al i=true→al j=true→i≠j→vs i≠vs j)→wpList P l.toArray Q (l.drop p) (fill 0 (l.take p) (fun k=>decide (k<p)) vs a0) w):
 ∀(fuel:Nat)(listed:Array Bool)(a:Act)(w:World),(listed.toList.filter (fun b=>!b)).length≤fuel→Inv l S V B al cs a0 p listed a w→wpAny P md l.toArray Q fuel listed a w:=by
 simp only [okB,Bool.and_eq_true]at hok
 obtain⟨⟨⟨⟨hsel,htab⟩,hlook⟩,hdg⟩,htl⟩:=hok
 have hafter:=jX htl
 have hdag:=iy hdg
 have done:∀(listed:Array Bool)(a:Act)(w:World),Inv l S V B al cs a0 p listed a w→Region.ready md l.toArray listed=[]→Q .normal a w:=by
  intro listed a w hi hr
  have hall:=hdag listed hi.sz hr
  have hpe:p=l.length:=by
   rcases Nat.lt_or_ge p l.length with h|h
   ·have:=hall p h
    rw [hi.no]at this;cases this
   ·omega
  obtain⟨vs,hsv,rfl,hv,hds⟩:=hi.v
  have ht:=tail vs w (by have:=hsv;rwa [vG (fun k hk=>by obtain⟨j,hj,rfl⟩:=List.mem_iff_getElem.1 hk;exact hall _ (by have:=qp hoc hj;rw [List.getD_eq_getElem?_getD,List.getElem?_eq_getElem hj]at this;simp at this;omega))]at this) (fun k hk=>hv k (hall k (by omega))) (fun i j tq hjp hi hj hne=>hds i j hi hj hne (hall i (by omega)) (hall j (by omega)))
  rw [show l.drop p=[]by rw [hpe];simp]at ht
  rw [bZ (l.take p) 0 _ (fun k=>decide (k<p)) vs vs a0 (fun j hj=>⟨by simp only [Nat.zero_add];rw [hall j (by simp at hj;omega)];simp at hj;simp;omega,fun _=>rfl⟩)]
  exact ht
 intro fuel
 induction fuel with
 |zero=>
  intro listed a w hf hi
  have hnone:Region.ready md l.toArray listed=[]:=by
   apply List.eq_nil_iff_forall_not_mem.2
   intro j hj
   obtain⟨h0,o,ho,_⟩:=mem_ready.1 hj
   have hlt:j<listed.size:=by
    rcases Nat.lt_or_ge j listed.size with h|h
    ·exact h
    ·simp [Array.getElem?_eq_none h]at h0
   have hmem:false∈listed.toList.filter (fun b=>!b):=by
    rw [List.mem_filter]
    refine⟨?_,rfl⟩
    have e:listed[j]?=some false:=by
     rw [Array.getElem?_eq_getElem hlt]
     simp [hlt]at h0;rw [h0]
    simpa using Array.mem_of_getElem? e
   have hz:=List.eq_nil_of_length_eq_zero (Nat.le_zero.1 hf)
   rw [hz]at hmem
   cases hmem
  exact⟨hnone,done listed a w hi hnone⟩
 |succ fuel ih=>
  intro listed a w hf hi
  refine⟨done listed a w hi,fun i hir=>?_⟩
  obtain⟨h0,o,ho,hall⟩:=mem_ready.1 hir
  have ho':l[i]?=some o:=by simpa using ho
  have hlt:i<listed.size:=by
   rcases Nat.lt_or_ge i listed.size with h|h
   ·exact h
   ·simp [Array.getElem?_eq_none h]at h0
  have h0':listed.getD i false=false:=by simp [hlt]at h0⊢;exact h0
  have hB:∀k∈B[i]?.getD [],listed.getD k false=true:=by
   intro k hk
   obtain⟨e,he,hb,hor⟩:=fM htab ho' hk
   have:=hall e he hb
   rcases hor with rfl|hk2
   ·exact this
   ·exact hi.cl _ _ this hk2
  have hil:i<l.length:=(List.getElem?_eq_some_iff.1 ho').1
  by_cases Ej:p≤i
  ·have tq:i=p:=by
    rcases Nat.lt_or_ge p i with h|h
    ·have:=hB p (hafter i Ej hil p h)
     rw [hi.no]at this;cases this
    ·omega
   subst tq
   obtain⟨vs,hsv,rfl,hv,hds⟩:=hi.v
   have hex:∀k,k<l.length→listed.getD k false=decide (k<i):=fun k hk=>by
    by_cases hki:k<i
    ·rw [hB k (hafter i (Nat.le_refl _) hil k hki)];simp [hki]
    ·by_cases hke:k=i
     ·subst hke;rw [h0'];simp
     ·cases hl:listed.getD k false with
      |false=>simp [hki]
      |true=>have:=hi.cl k i hl (hafter k (by omega) hk i (by omega));rw [h0']at this;cases this
   have ht:=tail vs w (by have:=hsv;rwa [vG (fun k hk=>by obtain⟨j,hj,rfl⟩:=List.mem_iff_getElem.1 hk;have h2:=qp hoc hj;rw [List.getD_eq_getElem?_getD,List.getElem?_eq_getElem hj]at h2;simp at h2;rw [hex _ (by omega)];simp [h2])]at this) (fun k hk=>hv k (by rw [hex k (by omega)];simp [hk])) (fun i' j' tq hjp hi' hj' hne=>hds i' j' hi' hj' hne (by rw [hex i' (by omega)];simp [tq]) (by rw [hex j' (by omega)];simp [hjp]))
   rw [←bZ (l.take i) 0 (fun k=>listed.getD k false) (fun k=>decide (k<i)) vs vs a0 (fun j hj=>⟨by simp only [Nat.zero_add];exact hex j (by simp at hj;omega),fun _=>rfl⟩)]at ht
   exact(ny htab hdg hafter (fuel+1) i listed _ w (Nat.le_refl _) (Nat.le_of_lt hil) hi.sz hex hf ht).2 i hir
  have tq:¬i=p:=by omega
  have oJ:i<p:=by omega
  obtain⟨vs,hsv,rfl,hv,hds⟩:=hi.v
  have Em:∀k,k<p→lk l o k=true→k∈B[i]?.getD []:=by
   intro k hkp hk
   unfold lk at hk
   cases hlk:l[k]? with
   |none=>rw [hlk]at hk;cases hk
   |some o'=>
    rw [hlk]at hk
    cases hd:o'.dst with
    |none=>simp only [hd]at hk;cases hk
    |some d=>simp only [hd]at hk;exact(bH hlook ho' oJ hlk hkp hd).1 (by simpa using hk)
  have AV:∀k,k<p→lk l o k=true→V k (vs k) w:=fun k hkp hk=>hv k (hB k (Em k hkp hk))
  obtain⟨T,no,hT,hTn,hTV,hno,hst⟩:∃(T:World→World→Prop)(no:Prop),(∀w',T w w'→S (ph cs (listed.setIfInBounds i true)) vs w')∧(∀k,k∈need (ph cs (listed.setIfInBounds i true))→listed.getD k false=true)∧(∀k w',T w w'→k≠i→V k (vs k) w→V k (vs k) w')∧(no→T w w)∧goI P l Q T V al no i o w (fill 0 (l.take p) (lk l o) vs a0):=by
   by_cases hic:i∈cs
   ·obtain⟨j,hj,hji⟩:=List.mem_iff_getElem.1 hic
    have hg:cs.getD j 0=i:=by rw [List.getD_eq_getElem?_getD,List.getElem?_eq_getElem hj];simpa using hji
    have before:∀i',i'<j→listed.getD (cs.getD i' 0) false=true:=fun i' hi'=>hB _ (by have:=(iC hoc hi' hj).1;rwa [hg]at this)
    have behind:∀i',j<i'→i'<cs.length→listed.getD (cs.getD i' 0) false=false:=fun i' h1 h2=>by
     cases hl:listed.getD (cs.getD i' 0) false with
     |false=>rfl
     |true=>have:=hi.cl _ _ hl ((iC hoc h1 h2).1);rw [hg,h0']at this;cases this
    have e1:ph cs listed=j:=sF cs listed j (Nat.le_of_lt hj) before (fun i' h1 h2=>by
     rcases Nat.lt_or_ge j i' with h|h
     ·exact behind i' h h2
     ·obtain rfl:i'=j:=by omega
      rw [hg];exact h0')
    have e2:ph cs (listed.setIfInBounds i true)=j+1:=sF cs _ (j+1) hj (fun i' h1=>by
     rcases Nat.lt_or_ge i' j with h|h
     ·exact getD_set_true (before i' h)
     ·obtain rfl:i'=j:=by omega
      rw [hg];simp [hlt]) (fun i' h1 h2=>by
     rw [getD_set_ne false (by have:=(iC hoc (show j<i' by omega) h2).2;rwa [hg]at this)]
     exact behind i' (by omega) h2)
    have hs:=hsv
    rw [e1]at hs
    exact⟨_,False,fun w' h=>by rw [e2];exact h.1,fun k hkn=>by(rw [e2]at hkn;have:=iT hnb hj hkn;rw [hg]at this;exact hB k this),fun k w' h hne hv=>h.2 k hne hv,fun h=>h.elim,(step i o oJ ho').get.2 j hj hg vs w hs AV⟩
   ·exact⟨R,True,fun w' h=>by rw [nC hic];exact hk _ _ _ _ hsv h,fun k hkn=>by
     rw [nC hic]at hkn
     obtain⟨m,hm⟩:∃m,m=ph cs listed:=⟨_,rfl⟩
     rw [←hm]at hkn
     cases m with
     |zero=>rw [lV hnb]at hkn;cases hkn
     |succ m=>
      have hml:m<cs.length:=by
         have:ph cs listed≤cs.length:=List.length_filter_le _ _
         omega
      have hmon:listed.getD (cs.getD m 0) false=true:=tY hoc hi.cl hm.symm hml
      exact hi.cl _ _ hmon (iT hnb hml hkn),fun k w' h _ hv=>hV k _ _ _ hv h,fun _=>hR w,(step i o oJ ho').get.1 hic vs _ w hsv AV⟩
  replace hst:=hst.get
  have same:∀t∈o.looksAt l.toArray,(fill 0 (l.take p) (lk l o) vs a0).tmps[t]?=(fill 0 (l.take p) (fun k=>listed.getD k false) vs a0).tmps[t]?:=by
   intro t ht
   refine je (l.take p) 0 _ _ vs vs a0 a0 t rfl rfl (fun j o' hj hd=>?_)
   obtain⟨hjp,hj⟩:=bK hj
   have hm:=(bH hlook ho' oJ hj hjp hd).1 ht
   simp only [Nat.zero_add]
   rw [hB j hm,kY l o j o' hj,hd]
   refine⟨by simpa using ht,by intros;trivial⟩
  have hwant:Region.wanted o (yielded l.toArray (fill 0 (l.take p) (fun k=>listed.getD k false) vs a0).tmps)=Region.wanted o (yielded l.toArray (fill 0 (l.take p) (lk l o) vs a0).tmps):=by
   unfold Region.wanted
   cases hg:o.guard with
   |none=>rfl
   |some gw=>
    obtain⟨g,want⟩:=gw
    have hy:yielded l.toArray (fill 0 (l.take p) (fun k=>listed.getD k false) vs a0).tmps g=yielded l.toArray (fill 0 (l.take p) (lk l o) vs a0).tmps g:=by
     unfold yielded
     cases ht:(l.toArray[g]?).bind (·.dst)with
     |none=>rfl
     |some t=>
      have:=same t (by simp only [Oper.looksAt,hg,ht];simp)
      simp only [Option.bind_some,this]
    simp only [hy]
  have vH:execOp (fill 0 (l.take p) (fun k=>listed.getD k false) vs a0).eval o=execOp (fill 0 (l.take p) (lk l o) vs a0).eval o:=by
   refine execOp_congr o (Region.noSelect_spec hsel i o · · ho) (fun x hx=>?_)
   cases x with
   |tmp t=>
    have:=same t (by unfold Oper.looksAt;exact List.mem_append_left _ (List.mem_filterMap.2 ⟨.tmp t,by simpa using hx,rfl⟩))
    show Array.getD _ t undef=Array.getD _ t undef
    rw [Array.getD_eq_getD_getElem?,Array.getD_eq_getD_getElem?,this]
   |_=>rfl
  have next:∀v w',T w w'→V i v w'→(al i=true→v=Value.pointer (some ⟨w.heap.size,0,none⟩))→wpAny P md l.toArray Q fuel (listed.setIfInBounds i true) ((fill 0 (l.take p) (fun k=>listed.getD k false) vs a0).put o.dst v) w':=by
   intro v w' hb En hnew
   refine ih _ _ _ ?_ ⟨by rw [getD_set_ne false tq];exact hi.no,by simp [hi.sz],?_,?_⟩
   ·have:((listed.setIfInBounds i true).toList.filter (fun b=>!b)).length+1=(listed.toList.filter (fun b=>!b)).length:=by
     rw [Array.toList_setIfInBounds]
     have hlt':i<listed.toList.length:=by simpa using hlt
     have hfalse:listed.toList[i]=false:=by simp [hlt]at h0';simpa using h0'
     rw [List.set_eq_take_append_cons_drop,if_pos hlt']
     conv=>rhs;rw [←List.take_append_drop i listed.toList,List.drop_eq_getElem_cons hlt',hfalse]
     simp [List.filter_append];omega
    omega
   ·intro j k hj hkB
    by_cases hji:i=j
    ·subst hji;exact getD_set_true (hB k hkB)
    ·rw [getD_set_ne false hji]at hj
     exact getD_set_true (hi.cl j k hj hkB)
   ·refine⟨fun k=>if k=i then v else vs k,?_,?_,?_,?_⟩
    ·refine hnd _ vs _ _ (fun k hkn=>?_) (hT _ hb)
     have:=hTn k hkn
     have:¬k=i:=fun e=>by subst e;rw [h0']at this;cases this
     simp [this]
    ·rw [jf (l.take p) 0 i (fun k=>listed.getD k false) (fun k=>(listed.setIfInBounds i true).getD k false) vs (fun k=>if k=i then v else vs k) a0 o (by rw [List.getElem?_take];simp [oJ,ho']) (by simpa using h0') (by simp [hlt]) (fun j hj=>by
      simp only [Nat.zero_add]
      refine⟨getD_set_ne false (Ne.symm hj),by simp [hj]⟩) (fun j k x y hx hy hjk d hd=>(bH hlook (bK hy).2 (bK hy).1 (bK hx).2 (bK hx).1 hd).2 (Ne.symm hjk))]
     simp
    ·intro k hkl
     by_cases hki:k=i
     ·subst hki;simpa using En
     ·rw [getD_set_ne false (Ne.symm hki)]at hkl
      simp only [hki,if_false]
      exact hTV _ _ hb hki (hv k hkl)
    ·intro i' j' hai haj hne LW hlj
     by_cases hi1:i'=i
     ·have hj1:¬j'=i:=fun e=>hne (hi1.trans e.symm)
      rw [getD_set_ne false (Ne.symm hj1)]at hlj
      simp only [hi1,if_true,hj1,if_false]
      rw [hi1]at hai
      obtain⟨b,eb,hlb⟩:=hal j' _ w haj (hv j' hlj)
      rw [hnew hai,eb]
      intro e
      injection e with e;injection e with e;injection e with e
      omega
     ·rw [getD_set_ne false (Ne.symm hi1)]at LW
      by_cases hj1:j'=i
      ·simp only [hi1,if_false,hj1,if_true]
       rw [hj1]at haj
       obtain⟨b,eb,hlb⟩:=hal i' _ w hai (hv i' LW)
       rw [hnew haj,eb]
       intro e
       injection e with e;injection e with e;injection e with e
       omega
      ·rw [getD_set_ne false (Ne.symm hj1)]at hlj
       simp only [hi1,if_false,hj1,if_false]
       exact hds i' j' hai haj hne LW hlj
  unfold wpOp
  simp only [ho]
  by_cases hw:Region.wanted o (yielded l.toArray (fill 0 (l.take p) (lk l o) vs a0).tmps)=true
  ·rw [hwant,hw]
   simp only [if_true]
   rw [if_pos hw]at hst
   exact .inl (wp_move (G:=fun v w'=>T w w'∧V i v w'∧(al i=true→v=Value.pointer (some ⟨w.heap.size,0,none⟩))) hp (by rw [dO,dO]) (by rw [cu,cu]) vH (fun K Ul=>hst K (fun v w' hb En hn=>Ul v w' ⟨hb,En,hn⟩)) (fun v w' hh=>next v w' hh.1 hh.2.1 hh.2.2))
  ·rw [if_neg hw]at hst
   rw [hwant,if_neg hw]
   exact next undef w (hno hst.2.2) hst.1 (fun hh=>by rw [hst.2.1]at hh;cases hh)
theorem wp_region{id:Nat}{w:World}(p:Nat)(cs:List Nat)(need:Nat→List Nat)(R:World→World→Prop)(S:Nat→(Nat→Value)→World→Prop)(V:Nat→Value→World→Prop)(al:Nat→Bool)(hm:P.follows .mixedOrders=true)(hok:okB .any l p (pJ .any l)=true)(hpl:decide (p≤l.length)=true)(hoc:wR cs p (pJ .any l)=true)(hnb:pK cs need (pJ .any l)=true)
 (hnd:∀n vs vs' w,(∀k,k∈need n→vs k=vs' k)→S n vs w→S n vs' w)
 (hR:∀w,R w w)(hk:∀n vs,gZ R (S n vs))(hV:∀k v,gZ R (V k v))(hal:∀j v w,al j=true→V j v w→∃b,v=Value.pointer (some ⟨b,0,none⟩)∧b<w.heap.size)(hS:∀vs,S 0 vs w.drew)
 (step:steps P l p (Ix.eY Q) R S V al cs a0 p 0 l)
 (fin:∀(vs:Nat→Value)(w:World),S cs.length vs w→(∀i j,i<p→j<p→al i=true→al j=true→i≠j→vs i≠vs j)→ru V vs w (fun a=>wpList P l.toArray (Ix.eY Q) (l.drop p) a w) p 0 l a0):
 (Code.region id l.toArray true).wp P Q a0 w:=by
 refine Code.wp_mono (Q:=Ix.eY Q) (fun e a w hh=>?_) ?_
 ·exact Ix.rC hh
 refine wp_region_any hm (Ad (Q:=Ix.eY Q) hR hk hoc hnd hnb hV hok Ix.mO (of_decide_eq_true hpl) (fun i o hi ho=>by have:=dM _ 0 l step i o hi ho;rwa [Nat.zero_add]at this) hal
  (fun vs w hs hv hd=>by rw [←jC p 0 l (fun k=>decide (k<p)) vs a0 (fun k=>by rw [Nat.zero_add])];exact nO (G:=fun a=>wpList P l.toArray (Ix.eY Q) (l.drop p) a w) p 0 l a0 _ (fun k=>by rw [Nat.zero_add]) (fun k hk=>by rw [Nat.zero_add];exact hv k hk) (fin vs w hs hd)) _ _ a0 _ ?_ ⟨?_,by simp,fun i k h=>?_,fun _=>undef,?_,?_,fun k h=>?_,fun i j _ _ _ h=>?_⟩)
 ·refine Nat.le_trans (List.length_filter_le _ _) (by simp)
 ·exact aY _ _
 ·rw [aY]at h;cases h
 ·rw [sF cs _ 0 (Nat.zero_le _) (fun i h=>by omega) (fun i _ _=>aY _ _)];exact hS _
 ·exact(fG (l.take p) 0 _ _ a0 (fun j=>aY _ _)).symm
 ·rw [aY]at h;cases h
 ·rw [aY]at h;cases h
end
def is(c:Value):Value→Prop:=fun v=>v=c
def vp(L:List (Value→Prop))(k:Nat):Value→World→Prop:=fun v _=>(L[k]?.getD (fun _=>True)) v
theorem BJ(R:World→World→Prop)(L:List (Value→Prop))(k:Nat)(v:Value):gZ R (vp L k v):=fun _ _ h _=>h
def okL(vs:Nat→Value)(w w':World)(i:Nat):Nat→List Ix.Kept→Prop
 |_,[]=>True
 |j,x::r=>(j≠i→x.f (vs j) w→x.f (vs j) w')∧okL vs w w' i (j+1) r
theorem GY{vs:Nat→Value}{w w':World}{i:Nat}:∀(j:Nat)(L:List Ix.Kept),okL vs w w' i j L→∀k x,L[k]?=some x→j+k≠i→x.f (vs (j+k)) w→x.f (vs (j+k)) w'
 |_,[],_,k,x,hk,_=>by simp at hk
 |j,y::L,h,0,x,hk,hne=>by simp at hk;subst hk;exact h.1 (by simpa using hne)
 |j,y::L,h,k+1,x,hk,hne=>by
  have:=GY (j+1) L h.2 k x (by simpa using hk) (by omega)
  rw [show j+(k+1)=j+1+k by omega];exact this
theorem dG{vs:Nat→Value}{L:List Ix.Kept}{w w':World}{i:Nat}(h:okL vs w w' i 0 L):∀k,k≠i→Ix.vk L k (vs k) w→Ix.vk L k (vs k) w':=by
 intro k hne
 unfold Ix.vk
 cases hk:L[k]? with
 |none=>exact fun h=>h
 |some x=>have:=GY 0 L h k x hk (by omega);rw [Nat.zero_add]at this;exact this
end Iy
end
section
open Go.ChangeShapes Go.WideShapes Go.ChangeAt Go.RowKit
theorem own:ownKnob Try.prog.godebug=none:=by kernel_rfl
theorem laidOut:laidOutB Try.prog=true:=by kernel_rfl
section
variable{H:Type}{enc:TypeId×Value→H}
theorem oN{P:Program}(hl:laidOutB P=true){W W':World}(hb:Below W.heap.size W W'):∀{ts:List TypeId}{vs:List Value}{ds:List (DataW H)}{ps:List MemPlace},
 (∀t∈ts,P.readableRec t=true∧t<P.types.size)→DataW.TrodAll enc P W 0 (fun _=>true) true ts vs ds ps→(∀x∈ps,x.block<W.heap.size)→
 DataW.TrodAll enc P W' 0 (fun b=>decide (b<W.heap.size)) true ts vs ds ps
 |[],[],[],_,_,h,_=>h
 |t::ts,v::vs,d::ds,ps,ht,h,hlt=>by
  obtain⟨p,q,h1,h2,rfl⟩:=h
  have ht1:=ht t (List.mem_cons.2 (Or.inl rfl))
  exact⟨p,q,Below.trod hl ht1.1 ht1.2 h1 hb (fun x hx=>hlt x (List.mem_append_left _ hx)),
   oN hl hb (fun t' ht'=>ht t' (List.mem_cons.2 (Or.inr ht'))) h2 (fun x hx=>hlt x (List.mem_append_right _ hx)),rfl⟩
theorem trodAll_length{P:Program}{W:World}{b:Nat}{sp:Nat→Bool}{hd:Bool}:∀{ts:List TypeId}{vs:List Value}{ds:List (DataW H)}{ps:List MemPlace},
 DataW.TrodAll enc P W b sp hd ts vs ds ps→ds.length=ts.length
 |[],[],[],_,_=>rfl
 |t::ts,v::vs,d::ds,ps,h=>by
  obtain⟨p,q,h1,h2,rfl⟩:=h
  simp [trodAll_length h2]
def Walks(K:Nat)(f:Func):Prop:=
 ∀(H:Type)(enc:TypeId×Value→H)(W:World)(base:Nat)(args:Array Value)(ds:List (DataW H))(ps:List MemPlace),
  (∀(j:Nat)t v,f.params[j]?=some t→args[j]?=some v→Value.okWide Try.prog W .any base t v)→
  DataW.TrodAll enc Try.prog W 0 (fun _=>true) true f.params.toList args.toList ds ps→
  (DataW.weightsEach Try.prog f.params.toList ds).all (·≤reachBytes)=true→
  Calls Try.prog K args W fun e W'=>e= .returned (.bool true)∧Below W.heap.size W W'
theorem law_lifted(K:Nat)(f:Func)(s:ChangeSpec)(hf:Try.prog.funcs[K]?=some f)(hi:Try.prog.inits.idxOf? K=none)(hv:s.vars=[])(hr:f.resultTypes=#[4])
 (hp:∀t∈f.params.toList,Try.prog.readableRec t=true∧t<Try.prog.types.size)
 (hs:∀(H:Type)(ds:List (DataW H)),ds.length=f.params.size→(s.fn H ds).results=[.lit (.bool true)]∧(s.fn H ds).args=ds∧(s.fn H ds).vars=[])
 (os:Os)(started:os.Started)(H:Type)(enc:TypeId×Value→H)
 (witness:∃(w:World)(tape:Tape)(i:Input),w.os=os∧(w.forCall tape i).Shaped Try.checked.prog∧i.vars=[]∧Input.okWide Try.checked.prog (w.forCall tape i) .any w.heap.size K i∧
   s.pre6 enc Try.checked.prog f [] false (w.forCall tape i).memory i.args∧({}:Assume).holds Try.checked.prog (lone (Frame.enter Try.checked.prog K i.args .normal) [] (w.forCall tape i)))
 (walk:Walks K f):
 ReturnsInHanded {} Try.checked os K .any (s.pre6 enc Try.prog f [] false) (s.post enc Try.prog f false true false false):=by
 refine returnsInHanded_of_change_sized (C:=Try.checked) own started hi hf witness ?_
 intro W base args ds gs before hval hW _ hsz _
 have hW':=hW
 obtain⟨p,q,hA,hV,rfl,hfz,hnd⟩:=hW
 rw [hv]at hV
 obtain⟨rfl,rfl⟩:=trodVars_none hV
 have hlt:∀x∈p++[],x.block<W.heap.size:=fun x hx=>hW'.lt x hx
 simp only [List.append_nil]at hlt hW'
 have hsz':(DataW.weightsEach Try.prog f.params.toList ds).all (·≤reachBytes)=true:=by
  have e:s.plain.varTypes Try.checked.prog=[]:=by simp [ChangeSpec.plain,DataSpec.varTypes,hv]
  rw [e]at hsz
  simp only [List.append_nil]at hsz
  exact hsz
 refine(walk H enc W base args ds p hval hA hsz').mono fun e W'⟨he,hb⟩=>?_
 have hlen:ds.length=f.params.size:=by rw [trodAll_length hA];simp
 obtain⟨h1,h2,h3⟩:=hs H ds hlen
 refine⟨_,he,ds,[],p,[],p,[],hW',?_,?_,?_,hb.frame _,fun h=>by cases h⟩
 ·simp only [List.append_nil]
  rw [h1,hr]
  exact trodAll_cons_mk (shut_bool Try.underlying4 _) trodAll_mk0
 ·simp only [List.append_nil]
  rw [h2]
  exact oN laidOut hb hp hA hlt
 ·simp only [List.append_nil]
  rw [hv,h3]
  rfl
end
end
section
open Go.ChangeShapes Go.WideShapes Go.ChangeAt Go.RowKit
theorem Ae{l:List Nat}(h:(l.all fun t=>Try.prog.readableRec t&&decide (t<Try.prog.types.size))=true):∀t∈l,Try.prog.readableRec t=true∧t<Try.prog.types.size:=by
 intro t ht
 have:=List.all_eq_true.1 h t ht
 simpa using this
theorem zB{H:Type}{enc:TypeId×Value→H}{W:World}{base:Nat}{v:Value}{d:DataW H}{p:List MemPlace}{t e:TypeId}{k:IntKind}(ht:Try.prog.underlying t=some (.slice e))(he:Try.prog.underlying e=some (.int k))(hc:Try.prog.cellsOf e=1)
 (hv:Value.okWide Try.prog W .any base t v)(h:DataW.Trod enc Try.prog W 0 (fun _=>true) true t v d p):∃(n:Nat)(xs:List Int),Rd W 1 v n (xs.map (Value.int k))∧∀x∈xs,(Lit.int k x).wf=true:=by
 obtain⟨a,len,cap,rfl⟩:=okWide_slice ht hv
 obtain⟨fuel,hf⟩:=h
 rcases open_ints ht he hc hf with⟨hcs,_⟩|⟨x,l,c,zs,hcs,_,hl,hm,hz,_,hcell,hwz⟩
 ·simp [Value.cells]at hcs
  obtain⟨rfl,rfl,rfl⟩:=hcs
  exact⟨0,[],Rd.nil _ _,by simp⟩
 ·simp [Value.cells]at hcs
  obtain⟨rfl,rfl,rfl⟩:=hcs
  have hzl:zs.length=cap:=by simpa using hz
  refine⟨len,zs.take len,⟨by simp;omega,by omega,some x,cap,rfl,hl,fun hne=>?_⟩,fun y hy=>hwz y (List.mem_of_mem_take hy)⟩
  obtain⟨b,off,spot⟩:=x
  have hlen:0<zs.length:=by
   rcases Nat.eq_zero_or_pos zs.length with h0|h0
   ·exfalso;apply hne;rw [List.eq_nil_of_length_eq_zero h0];simp
   ·exact h0
  have hc0:=hcell 0 hlen
  have hs:spot=none:=by simpa [Addr.add]using World.cell?_spot hc0
  subst hs
  refine⟨b,off,rfl,fun j u hu=>?_⟩
  rw [List.getElem?_map,List.getElem?_take]at hu
  split at hu
  ·rename_i hj
   have hj':j<zs.length:=by omega
   rw [List.getElem?_eq_getElem hj']at hu
   simp only [Option.map_some,Option.some.injEq]at hu
   subst hu
   have Ti:=hcell j hj'
   have e:(⟨b,off,none⟩:Addr).add j=⟨b,off+j,none⟩:=by
    rcases j with _|j<;>simp [Addr.add]
   rw [e]at Ti
   simpa [List.getD_eq_getElem?_getD,List.getElem?_eq_getElem hj']using Ti
  ·cases hu
theorem ZJ{H:Type}{enc:TypeId×Value→H}{W:World}{base:Nat}{v:Value}{d:DataW H}{p:List MemPlace}(hv:Value.okWide Try.prog W .any base 138 v)
 (h:DataW.Trod enc Try.prog W 0 (fun _=>true) true 138 v d p):∃(n:Nat)(xs:List Int),Rd W 1 v n (xs.map (Value.int .i64))∧∀x∈xs,(Lit.int .i64 x).wf=true:=
 zB Try.underlying138 Try.underlying3 (by kernel_rfl) hv h
end
section
open Go.RowKit
def aH(g:Nat)(w w':World):Prop:=w.grownBy w' (some g)
theorem aH.of_below{g:Nat}{w w':World}(h:Below w.heap.size w w'):aH g w w':=⟨h.os,h.tape,h.output,h.size,fun k hk _=>h.block k hk⟩
theorem aH.trans{g:Nat}{a b c:World}(h:aH g a b)(k:aH g b c):aH g a c:=
 ⟨k.os.trans h.os,k.tape.trans h.tape,k.output.trans h.output,Nat.le_trans h.size k.size,fun i hi hr=>(k.block i (Nat.lt_of_lt_of_le hi h.size) hr).trans (h.block i hi hr)⟩
theorem aH.setCell{g:Nat}{w a:World}(h:aH g w a)(o:Nat)(u:Value):aH g w (a.setCell ⟨g,o,none⟩ u):=
 ⟨h.os,h.tape,h.output,by simpa using h.size,fun k hk hr=>(Below.heap_setCell a ⟨g,o,none⟩ u k (by simpa using hr)).trans (h.block k hk hr)⟩
theorem Below.bC{B g:Nat}{w0 w w':World}(h:Below B w0 w)(hB:B≤w0.heap.size)(hg:B≤g)(hc:aH g w w'):Below B w0 w':=
 ⟨hc.os.trans h.os,hc.tape.trans h.tape,hc.output.trans h.output,Nat.le_trans h.size hc.size,fun k hk=>(hc.block k (Nat.lt_of_lt_of_le (Nat.lt_of_lt_of_le hk hB) h.size) (by simp;omega)).trans (h.block k hk)⟩
theorem aH.size{g:Nat}{w w':World}(h:aH g w w'):w.heap.size≤w'.heap.size:=World.grownBy.size h
abbrev P(g:Nat):Value:= .pointer (some ⟨g,0,none⟩)
theorem aH.y8{g:Nat}{w w':World}(h:aH g w.drew w'):aH g w w':=⟨h.os,h.tape,h.output,h.size,h.block⟩
theorem aH.cell{g b o:Nat}{v:Value}{w w':World}(h:aH g w w')(hne:b≠g)(hc:w.cell? ⟨b,o,none⟩=some v):w'.cell? ⟨b,o,none⟩=some v:=by
 rw [World.cell?_of_block (h.block b (World.block_lt_of_cell? w ⟨b,o,none⟩ hc) (by simpa using hne))];exact hc
end
end Go.Proofs.Ythdckndjggljpaa
