/- Proofs of this claim, part 2. No condition. -/
import Derived.Maps.OwnSet
import Derived.Maps.RangeWalk
import Derived.Sort.KeysCollected
import Derived.StringKeys
import Derived.Test.YthdckndjggljpaaS0
namespace Go.Proofs.Ythdckndjggljpaa
set_option linter.unusedVariables false
set_option linter.unusedSimpArgs false
set_option maxRecDepth 100000
set_option maxHeartbeats 64000000
section
open Go.RowKit
theorem dY(v:Int)(h:W.ok v)(w:World):Calls Try.prog 89 #[.int .i64 v] w fun e w'=>e= .returned (.int .u64 (W.mk v))∧w=w':=by
 rcases h with rfl|rfl|rfl|rfl
 all_goals
  go_enter Try.func89,Try.ntmps89
  go_wp2
  go_ret
  exact⟨rfl,rfl⟩
theorem lG(a v:Int)(h:W.ok v)(w:World):Calls Try.prog 59 #[.int .u64 a, .int .i64 v] w fun e w'=>e= .returned (.tuple #[.int .i64 (W.sg v a), .int .i64 0])∧w=w':=by
 rcases h with rfl|rfl|rfl|rfl
 ·go_enter Try.func59,Try.ntmps59
  go_wp2
  go_ret2
  exact⟨W.kG (W.i64 (W.sg8 a)) rfl,rfl⟩
 ·go_enter Try.func59,Try.ntmps59
  go_wp2
  go_ret2
  exact⟨W.kG (W.i64 (W.aa7 a)) rfl,rfl⟩
 ·go_enter Try.func59,Try.ntmps59
  go_wp2
  go_ret2
  exact⟨W.kG (W.i64 (W.aa8 a)) rfl,rfl⟩
 ·go_enter Try.func59,Try.ntmps59
  go_wp2
  go_ret2
  exact⟨W.kG (W.i64 (W.aa9 a)) rfl,rfl⟩
theorem x9(a v:Int)(h:¬W.ok v)(w:World):Calls Try.prog 59 #[.int .u64 a, .int .i64 v] w fun e w'=>e= .returned (.tuple #[.int .i64 0, .int .i64 1])∧w=w':=by
 go_enter Try.func59,Try.ntmps59
 go_wp2_with(first|(go_at_call 56;refine(iZ v h _).mono ?_;rintro e w'⟨rfl,rfl⟩)|go_in)
 go_ret2
 exact⟨rfl,rfl⟩
theorem Q8(a b v A B:Int)(s:Bool)(h:W.ok v)(hA:bits .and .u64 a (W.mk v)=A)(hB:bits .and .u64 b (W.mk v)=B)(w:World):
 Calls Try.prog 96 #[.int .u64 a, .int .u64 b, .int .i64 v, .bool s] w fun e w'=>e= .returned (.tuple #[.bool (if s then decide (W.sg v a<W.sg v b)else decide (A<B)), .int .i64 0])∧w=w':=by
 cases s
 ·go_enter Try.func96,Try.ntmps96
  go_wp2_with(first|(go_at_call 59;refine(lG _ _ h _).mono ?_;rintro e w'⟨rfl,rfl⟩)|(go_at_call 89;refine(dY _ h _).mono ?_;rintro e w'⟨rfl,rfl⟩))
  go_ret2
  exact⟨rfl,rfl⟩
 ·go_enter Try.func96,Try.ntmps96
  go_wp2_with(first|(go_at_call 59;refine(lG _ _ h _).mono ?_;rintro e w'⟨rfl,rfl⟩)|(go_at_call 89;refine(dY _ h _).mono ?_;rintro e w'⟨rfl,rfl⟩))
  go_ret2
  exact⟨rfl,rfl⟩
theorem jh(a b v:Int)(s:Bool)(h:W.ok v)(ha:W.U a)(hb:W.U b)(w:World):
 Calls Try.prog 96 #[.int .u64 a, .int .u64 b, .int .i64 v, .bool s] w fun e w'=>e= .returned (.tuple #[.bool (W.less v s a b), .int .i64 0])∧w=w':=
 Q8 a b v _ _ s h (W.Lc v h a ha) (W.Lc v h b hb) w
theorem ZR(a b v:Int)(s:Bool)(h:¬W.ok v)(w:World):Calls Try.prog 96 #[.int .u64 a, .int .u64 b, .int .i64 v, .bool s] w fun e w'=>e= .returned (.tuple #[.bool false, .int .i64 1])∧w=w':=by
 go_enter Try.func96,Try.ntmps96
 go_wp2_with(first|(go_at_call 59;refine(x9 _ _ h _).mono ?_;rintro e w'⟨rfl,rfl⟩))
 go_ret2
 exact⟨rfl,rfl⟩
theorem VQ(a n v A:Int)(s:Bool)(h:W.ok v)(hn:0≤n)(hA:bits .and .u64 a (W.mk v)=A)(w:World):
 Calls Try.prog 66 #[.int .u64 a, .int .u64 n, .int .i64 v, .bool s] w fun e w'=>e= .returned (.tuple #[.int .u64 (if s then bits .and .u64 (IntKind.u64.wrap (W.sg v a/2^min n.toNat 64)) (W.mk v)else A/2^min n.toNat 64), .int .i64 0])∧w=w':=by
 cases s
 ·go_enter Try.func66,Try.ntmps66
  go_wp2_with(first|(go_at_call 59;refine(lG _ _ h _).mono ?_;rintro e w'⟨rfl,rfl⟩)|(go_at_call 89;refine(dY _ h _).mono ?_;rintro e w'⟨rfl,rfl⟩))
  go_ret2
  exact⟨rfl,rfl⟩
 ·go_enter Try.func66,Try.ntmps66
  go_wp2_with(first|(go_at_call 59;refine(lG _ _ h _).mono ?_;rintro e w'⟨rfl,rfl⟩)|(go_at_call 89;refine(dY _ h _).mono ?_;rintro e w'⟨rfl,rfl⟩))
  go_ret2
  exact⟨rfl,rfl⟩
theorem P7(a n v:Int)(s:Bool)(h:W.ok v)(ha:W.U a)(hn:0≤n)(w:World):
 Calls Try.prog 66 #[.int .u64 a, .int .u64 n, .int .i64 v, .bool s] w fun e w'=>e= .returned (.tuple #[.int .u64 (W.shr v s a n), .int .i64 0])∧w=w':=by
 refine(VQ a n v _ s h hn (W.Lc v h a ha) w).mono ?_
 rintro e w'⟨rfl,rfl⟩
 refine⟨W.kG (W.u64 ?_) rfl,rfl⟩
 unfold W.shr
 cases s
 ·rfl
 ·simp only [if_true]
  rw [W.Lc v h _ (W.jT _),W.bY]
theorem abZ(a n v:Int)(s:Bool)(h:¬W.ok v)(w:World):Calls Try.prog 66 #[.int .u64 a, .int .u64 n, .int .i64 v, .bool s] w fun e w'=>e= .returned (.tuple #[.int .u64 0, .int .i64 1])∧w=w':=by
 go_enter Try.func66,Try.ntmps66
 go_wp2_with(first|(go_at_call 59;refine(x9 _ _ h _).mono ?_;rintro e w'⟨rfl,rfl⟩))
 go_ret2
 exact⟨rfl,rfl⟩
theorem Uh(a n v:Int)(h:W.ok v)(ha:W.U a)(hn:0≤n)(w:World):
 Calls Try.prog 65 #[.int .u64 a, .int .u64 n, .int .i64 v] w fun e w'=>e= .returned (.tuple #[.int .u64 (W.shl v a n), .int .i64 0])∧w'=w.alloc (.cells #[.int .u64 n] 60):=by
 go_enter Try.func65,Try.ntmps65
 go_wp2_with(first|(go_at_call 56;refine(jd _ h _).mono ?_;rintro e w'⟨rfl,rfl⟩)|(go_at_call 89;refine(dY _ h _).mono ?_;rintro e w'⟨rfl,rfl⟩)|go_in)
 go_ret2
 exact⟨W.kG (W.u64 (W.OC _ (W.Lc v h) ha)) rfl,rfl⟩
theorem aav(a n v:Int)(h:¬W.ok v)(w:World):
 Calls Try.prog 65 #[.int .u64 a, .int .u64 n, .int .i64 v] w fun e w'=>e= .returned (.tuple #[.int .u64 0, .int .i64 1])∧w'=w.alloc (.cells #[.int .u64 n] 60):=by
 go_enter Try.func65,Try.ntmps65
 go_wp2_with(first|(go_at_call 56;refine(iZ _ h _).mono ?_;rintro e w'⟨rfl,rfl⟩)|go_in)
 go_ret2
 exact⟨rfl,rfl⟩
end
section
open Go.RowKit
theorem W.abb(x:Int)(h0:0≤x)(h1:x<256):bits .and .u64 (x/128) 1=x/128:=by
 have:=W.jg 1 (by decide) (x/128) (by omega) (by omega)
 rw [show((2:Int)^1-1)=1 from rfl]at this;rw [this];omega
theorem W.Xi(x:Int)(h0:0≤x)(h1:x<65536):bits .and .u64 (x/32768) 1=x/32768:=by
 have:=W.jg 1 (by decide) (x/32768) (by omega) (by omega)
 rw [show((2:Int)^1-1)=1 from rfl]at this;rw [this];omega
theorem W.Yt(x:Int)(h0:0≤x)(h1:x<4294967296):bits .and .u64 (x/2147483648) 1=x/2147483648:=by
 have:=W.jg 1 (by decide) (x/2147483648) (by omega) (by omega)
 rw [show((2:Int)^1-1)=1 from rfl]at this;rw [this];omega
theorem W.XW(x:Int)(h0:0≤x)(h1:x<18446744073709551616):bits .and .u64 (x/9223372036854775808) 1=x/9223372036854775808:=by
 have:=W.jg 1 (by decide) (x/9223372036854775808) (by omega) (by omega)
 rw [show((2:Int)^1-1)=1 from rfl]at this;rw [this];omega
def W.Top(v x s:Int):Prop:=bits .and .u64 (x/s) 1=if W.ng v x then 1 else 0
theorem W.X0(x:Int)(h0:0≤x)(h1:x<256):W.Top 8 x 128:=by
 unfold W.Top W.ng;rw [W.abb x h0 h1,W.md8];simp only [decide_eq_true_eq];split<;>omega
theorem W.RV(x:Int)(h0:0≤x)(h1:x<65536):W.Top 16 x 32768:=by
 unfold W.Top W.ng;rw [W.Xi x h0 h1,W.Pn];simp only [decide_eq_true_eq];split<;>omega
theorem W.SS(x:Int)(h0:0≤x)(h1:x<4294967296):W.Top 32 x 2147483648:=by
 unfold W.Top W.ng;rw [W.Yt x h0 h1,W.Q7];simp only [decide_eq_true_eq];split<;>omega
theorem W.SN(x:Int)(h0:0≤x)(h1:x<18446744073709551616):W.Top 64 x 9223372036854775808:=by
 unfold W.Top W.ng;rw [W.XW x h0 h1,W.QG];simp only [decide_eq_true_eq];split<;>omega
theorem W.PK(v x:Int)(h:W.ok v)(hx:0≤x)(hx1:x<W.md v)(hn:W.ng v x=true):bits .and .u64 (IntKind.u64.wrap (-x)) (W.mk v)=W.mag v x:=by
 rw [W.Lc v h _ (W.jT _),W.bY]
 unfold W.ng at hn;simp only [decide_eq_true_eq]at hn
 unfold W.mag;rw [if_pos hn]
 have:=W.Dv v
 have e:-x=(W.md v-x)-W.md v:=by omega
 rw [e,Int.sub_emod,Int.emod_self,Int.sub_zero,Int.emod_emod]
 exact Int.emod_eq_of_lt (by omega) (by omega)
theorem W.MR(v x:Int)(hn:W.ng v x=false):x=W.mag v x:=by
 unfold W.ng at hn;simp only [decide_eq_false_iff_not]at hn
 unfold W.mag;rw [if_neg hn]
theorem W.QL{v x s:Int}(h:W.Top v x s)(hn:W.ng v x=true):(bits .and .u64 (x/s) 1==1)=true:=by rw [h,hn];rfl
theorem W.QJ{v x s:Int}(h:W.Top v x s)(hn:W.ng v x=false):(bits .and .u64 (x/s) 1==1)=false:=by rw [h,hn];rfl
theorem QK(x:Int)(ht:(bits .and .u64 (x/128) 1==1)=true)(w:World):
 Calls Try.prog 100 #[.int .u64 x, .int .i64 8] w fun e w'=>e= .returned (.tuple #[.int .u64 (bits .and .u64 (IntKind.u64.wrap (-x)) 255), .bool true])∧w=w':=by
 go_enter Try.func100,Try.ntmps100
 go_wp2
 go_ret2
 exact⟨rfl,rfl⟩
theorem QI(x:Int)(ht:(bits .and .u64 (x/128) 1==1)=false)(w:World):
 Calls Try.prog 100 #[.int .u64 x, .int .i64 8] w fun e w'=>e= .returned (.tuple #[.int .u64 x, .bool false])∧w=w':=by
 go_enter Try.func100,Try.ntmps100
 go_wp2
 go_ret2
 exact⟨rfl,rfl⟩
theorem MW(x:Int)(ht:(bits .and .u64 (x/32768) 1==1)=true)(w:World):
 Calls Try.prog 100 #[.int .u64 x, .int .i64 16] w fun e w'=>e= .returned (.tuple #[.int .u64 (bits .and .u64 (IntKind.u64.wrap (-x)) 65535), .bool true])∧w=w':=by
 go_enter Try.func100,Try.ntmps100
 go_wp2
 go_ret2
 exact⟨rfl,rfl⟩
theorem MS(x:Int)(ht:(bits .and .u64 (x/32768) 1==1)=false)(w:World):
 Calls Try.prog 100 #[.int .u64 x, .int .i64 16] w fun e w'=>e= .returned (.tuple #[.int .u64 x, .bool false])∧w=w':=by
 go_enter Try.func100,Try.ntmps100
 go_wp2
 go_ret2
 exact⟨rfl,rfl⟩
theorem MX(x:Int)(ht:(bits .and .u64 (x/2147483648) 1==1)=true)(w:World):
 Calls Try.prog 100 #[.int .u64 x, .int .i64 32] w fun e w'=>e= .returned (.tuple #[.int .u64 (bits .and .u64 (IntKind.u64.wrap (-x)) 4294967295), .bool true])∧w=w':=by
 go_enter Try.func100,Try.ntmps100
 go_wp2
 go_ret2
 exact⟨rfl,rfl⟩
theorem MF(x:Int)(ht:(bits .and .u64 (x/2147483648) 1==1)=false)(w:World):
 Calls Try.prog 100 #[.int .u64 x, .int .i64 32] w fun e w'=>e= .returned (.tuple #[.int .u64 x, .bool false])∧w=w':=by
 go_enter Try.func100,Try.ntmps100
 go_wp2
 go_ret2
 exact⟨rfl,rfl⟩
theorem KO(x:Int)(ht:(bits .and .u64 (x/9223372036854775808) 1==1)=true)(w:World):
 Calls Try.prog 100 #[.int .u64 x, .int .i64 64] w fun e w'=>e= .returned (.tuple #[.int .u64 (bits .and .u64 (IntKind.u64.wrap (-x)) 18446744073709551615), .bool true])∧w=w':=by
 go_enter Try.func100,Try.ntmps100
 go_wp2
 go_ret2
 exact⟨rfl,rfl⟩
theorem MV(x:Int)(ht:(bits .and .u64 (x/9223372036854775808) 1==1)=false)(w:World):
 Calls Try.prog 100 #[.int .u64 x, .int .i64 64] w fun e w'=>e= .returned (.tuple #[.int .u64 x, .bool false])∧w=w':=by
 go_enter Try.func100,Try.ntmps100
 go_wp2
 go_ret2
 exact⟨rfl,rfl⟩
theorem kK(x v X:Int)(n:Bool)(h:W.ok v)(h0:0≤x)(h1:x<W.md v)(hX:W.mag v x=X)(hn:W.ng v x=n)(w:World):
 Calls Try.prog 100 #[.int .u64 x, .int .i64 v] w fun e w'=>e= .returned (.tuple #[.int .u64 X, .bool n])∧w=w':=by
 subst hX
 cases n
 ·have e:=W.MR v x hn
  rw [←e]
  rcases h with rfl|rfl|rfl|rfl
  ·exact QI x (W.QJ (W.X0 x h0 h1) hn) w
  ·exact MS x (W.QJ (W.RV x h0 h1) hn) w
  ·exact MF x (W.QJ (W.SS x h0 h1) hn) w
  ·exact MV x (W.QJ (W.SN x h0 h1) hn) w
 ·have e:=W.PK v x h h0 h1 hn
  rw [←e]
  rcases h with rfl|rfl|rfl|rfl
  ·exact QK x (W.QL (W.X0 x h0 h1) hn) w
  ·exact MW x (W.QL (W.RV x h0 h1) hn) w
  ·exact MX x (W.QL (W.SS x h0 h1) hn) w
  ·exact KO x (W.QL (W.SN x h0 h1) hn) w
theorem zZ(a b v:Int)(s:Bool)(h:¬W.ok v)(w:World):
 Calls Try.prog 94 #[.int .u64 a, .int .u64 b, .int .i64 v, .bool s] w fun e w'=>e= .returned (.tuple #[.int .u64 0, .int .u64 0, .int .i64 1])∧w=w':=by
 go_enter Try.func94,Try.ntmps94
 go_wp2_with(first|(go_at_call 56;refine(iZ _ h _).mono ?_;rintro e w'⟨rfl,rfl⟩))
 go_ret3
 exact⟨rfl,rfl⟩
theorem vW(a b v:Int)(s:Bool)(h:W.ok v)(hB:bits .and .u64 b (W.mk v)=0)(w:World):
 Calls Try.prog 94 #[.int .u64 a, .int .u64 b, .int .i64 v, .bool s] w fun e w'=>e= .returned (.tuple #[.int .u64 0, .int .u64 0, .int .i64 10])∧w=w':=by
 go_enter Try.func94,Try.ntmps94
 go_wp2_with(first|(go_at_call 56;refine(jd _ h _).mono ?_;rintro e w'⟨rfl,rfl⟩)|(go_at_call 89;refine(dY _ h _).mono ?_;rintro e w'⟨rfl,rfl⟩))
 go_ret3
 exact⟨rfl,rfl⟩
def sG(w w':World):Prop:=∃n,w'=w.drewN n
theorem BL(a b v A B:Int)(h:W.ok v)(hA:bits .and .u64 a (W.mk v)=A)(hB:bits .and .u64 b (W.mk v)=B)(hB1:1≤B)(hA0:0≤A)(hA1:A≤18446744073709551615)(hB2:(B==0)=false)(w:World):
 Calls Try.prog 94 #[.int .u64 a, .int .u64 b, .int .i64 v, .bool false] w fun e w'=>e= .returned (.tuple #[.int .u64 (A/B), .int .u64 (A%B), .int .i64 0])∧sG w w':=by
 go_enter Try.func94,Try.ntmps94
 go_wp2_with(first|(go_at_call 56;refine(jd _ h _).mono ?_;rintro e w'⟨rfl,rfl⟩)|(go_at_call 89;refine(dY _ h _).mono ?_;rintro e w'⟨rfl,rfl⟩))
 go_quiet(fail)
 go_wp2
 go_ret3
 exact⟨rfl,_,rfl⟩
end
section
open Go.RowKit
theorem KI(a b v A B X Y:Int)(h:W.ok v)(hA:bits .and .u64 a (W.mk v)=A)(hB:bits .and .u64 b (W.mk v)=B)(hA0:0≤A)(hA1:A<W.md v)(hB0:0≤B)(hB1:B<W.md v)(hB2:(B==0)=false)
 (hX:W.mag v A=X)(hY:W.mag v B=Y)(ha:W.ng v A=false)(hb:W.ng v B=false)(hX0:0≤X)(hX1:X≤18446744073709551615)(hY0:1≤Y)(w:World):
 Calls Try.prog 94 #[.int .u64 a, .int .u64 b, .int .i64 v, .bool true] w fun e w'=>e= .returned (.tuple #[.int .u64 (bits .and .u64 (X/Y) (W.mk v)), .int .u64 (bits .and .u64 (X%Y) (W.mk v)), .int .i64 0])∧sG w w':=by
 have HX:=Lib.hid hX;have HY:=Lib.hid hY;have Ha:=Lib.hid ha;have Hb:=Lib.hid hb
 clear hX hY ha hb
 go_enter Try.func94,Try.ntmps94
 go_wp2_with(first|(go_at_call 56;refine(jd _ h _).mono ?_;rintro e w'⟨rfl,rfl⟩)|(go_at_call 89;refine(dY _ h _).mono ?_;rintro e w'⟨rfl,rfl⟩)|(go_at_call_of 100(Value.int IntKind.u64 A);refine(kK A v X false h hA0 hA1 HX.out Ha.out _).mono ?_;rintro e w'⟨rfl,rfl⟩)|(go_at_call_of 100(Value.int IntKind.u64 B);refine(kK B v Y false h hB0 hB1 HY.out Hb.out _).mono ?_;rintro e w'⟨rfl,rfl⟩))
 go_quiet(fail)
 go_wp2_with(first|(go_at_call 89;refine(dY _ h _).mono ?_;rintro e w'⟨rfl,rfl⟩))
 go_ret3
 exact⟨rfl,_,rfl⟩
theorem Nq(a b v A B X Y:Int)(h:W.ok v)(hA:bits .and .u64 a (W.mk v)=A)(hB:bits .and .u64 b (W.mk v)=B)(hA0:0≤A)(hA1:A<W.md v)(hB0:0≤B)(hB1:B<W.md v)(hB2:(B==0)=false)
 (hX:W.mag v A=X)(hY:W.mag v B=Y)(ha:W.ng v A=false)(hb:W.ng v B=true)(hX0:0≤X)(hX1:X≤18446744073709551615)(hY0:1≤Y)(w:World):
 Calls Try.prog 94 #[.int .u64 a, .int .u64 b, .int .i64 v, .bool true] w fun e w'=>e= .returned (.tuple #[.int .u64 (bits .and .u64 (IntKind.u64.wrap (-(X/Y))) (W.mk v)), .int .u64 (bits .and .u64 (X%Y) (W.mk v)), .int .i64 0])∧sG w w':=by
 have HX:=Lib.hid hX;have HY:=Lib.hid hY;have Ha:=Lib.hid ha;have Hb:=Lib.hid hb
 clear hX hY ha hb
 go_enter Try.func94,Try.ntmps94
 go_wp2_with(first|(go_at_call 56;refine(jd _ h _).mono ?_;rintro e w'⟨rfl,rfl⟩)|(go_at_call 89;refine(dY _ h _).mono ?_;rintro e w'⟨rfl,rfl⟩)|(go_at_call_of 100(Value.int IntKind.u64 A);refine(kK A v X false h hA0 hA1 HX.out Ha.out _).mono ?_;rintro e w'⟨rfl,rfl⟩)|(go_at_call_of 100(Value.int IntKind.u64 B);refine(kK B v Y true h hB0 hB1 HY.out Hb.out _).mono ?_;rintro e w'⟨rfl,rfl⟩))
 go_quiet(fail)
 go_wp2_with(first|(go_at_call 89;refine(dY _ h _).mono ?_;rintro e w'⟨rfl,rfl⟩))
 go_ret3
 exact⟨rfl,_,rfl⟩
theorem MO(a b v A B X Y:Int)(h:W.ok v)(hA:bits .and .u64 a (W.mk v)=A)(hB:bits .and .u64 b (W.mk v)=B)(hA0:0≤A)(hA1:A<W.md v)(hB0:0≤B)(hB1:B<W.md v)(hB2:(B==0)=false)
 (hX:W.mag v A=X)(hY:W.mag v B=Y)(ha:W.ng v A=true)(hb:W.ng v B=false)(hX0:0≤X)(hX1:X≤18446744073709551615)(hY0:1≤Y)(w:World):
 Calls Try.prog 94 #[.int .u64 a, .int .u64 b, .int .i64 v, .bool true] w fun e w'=>e= .returned (.tuple #[.int .u64 (bits .and .u64 (IntKind.u64.wrap (-(X/Y))) (W.mk v)), .int .u64 (bits .and .u64 (IntKind.u64.wrap (-(X%Y))) (W.mk v)), .int .i64 0])∧sG w w':=by
 have HX:=Lib.hid hX;have HY:=Lib.hid hY;have Ha:=Lib.hid ha;have Hb:=Lib.hid hb
 clear hX hY ha hb
 go_enter Try.func94,Try.ntmps94
 go_wp2_with(first|(go_at_call 56;refine(jd _ h _).mono ?_;rintro e w'⟨rfl,rfl⟩)|(go_at_call 89;refine(dY _ h _).mono ?_;rintro e w'⟨rfl,rfl⟩)|(go_at_call_of 100(Value.int IntKind.u64 A);refine(kK A v X true h hA0 hA1 HX.out Ha.out _).mono ?_;rintro e w'⟨rfl,rfl⟩)|(go_at_call_of 100(Value.int IntKind.u64 B);refine(kK B v Y false h hB0 hB1 HY.out Hb.out _).mono ?_;rintro e w'⟨rfl,rfl⟩))
 go_quiet(fail)
 go_wp2_with(first|(go_at_call 89;refine(dY _ h _).mono ?_;rintro e w'⟨rfl,rfl⟩))
 go_ret3
 exact⟨rfl,_,rfl⟩
theorem Nw(a b v A B X Y:Int)(h:W.ok v)(hA:bits .and .u64 a (W.mk v)=A)(hB:bits .and .u64 b (W.mk v)=B)(hA0:0≤A)(hA1:A<W.md v)(hB0:0≤B)(hB1:B<W.md v)(hB2:(B==0)=false)
 (hX:W.mag v A=X)(hY:W.mag v B=Y)(ha:W.ng v A=true)(hb:W.ng v B=true)(hX0:0≤X)(hX1:X≤18446744073709551615)(hY0:1≤Y)(w:World):
 Calls Try.prog 94 #[.int .u64 a, .int .u64 b, .int .i64 v, .bool true] w fun e w'=>e= .returned (.tuple #[.int .u64 (bits .and .u64 (X/Y) (W.mk v)), .int .u64 (bits .and .u64 (IntKind.u64.wrap (-(X%Y))) (W.mk v)), .int .i64 0])∧sG w w':=by
 have HX:=Lib.hid hX;have HY:=Lib.hid hY;have Ha:=Lib.hid ha;have Hb:=Lib.hid hb
 clear hX hY ha hb
 go_enter Try.func94,Try.ntmps94
 go_wp2_with(first|(go_at_call 56;refine(jd _ h _).mono ?_;rintro e w'⟨rfl,rfl⟩)|(go_at_call 89;refine(dY _ h _).mono ?_;rintro e w'⟨rfl,rfl⟩)|(go_at_call_of 100(Value.int IntKind.u64 A);refine(kK A v X true h hA0 hA1 HX.out Ha.out _).mono ?_;rintro e w'⟨rfl,rfl⟩)|(go_at_call_of 100(Value.int IntKind.u64 B);refine(kK B v Y true h hB0 hB1 HY.out Hb.out _).mono ?_;rintro e w'⟨rfl,rfl⟩))
 go_quiet(fail)
 go_wp2_with(first|(go_at_call 89;refine(dY _ h _).mono ?_;rintro e w'⟨rfl,rfl⟩))
 go_ret3
 exact⟨rfl,_,rfl⟩
theorem BK(a b v:Int)(s:Bool)(h:W.ok v)(ha:W.U a)(hb:W.U b)(hz:b%W.md v≠0)(w:World):
 Calls Try.prog 94 #[.int .u64 a, .int .u64 b, .int .i64 v, .bool s] w fun e w'=>e= .returned (.tuple #[.int .u64 (W.quo v s a b), .int .u64 (W.rem v s a b), .int .i64 0])∧sG w w':=by
 have hA:=W.Lc v h a ha
 have hB:=W.Lc v h b hb
 have a0:=W.dZ a v;have a1:=W.rQ a v;have a2:=W.mod_le a v
 have b0:=W.dZ b v;have b1:=W.rQ b v;have b2:=W.mod_le b v
 have hz':(b%W.md v==0)=false:=by rw [beq_eq_false_iff_ne];exact hz
 have x0:=W.Uk v _ a0 a1;have x1:=W.U7 v _ a0 a1
 have y0:=W.QW v _ b0 b1 hz;have hmd:=W.uI v
 have hm:=W.Lc v h
 have ux:W.U (W.mag v (a%W.md v)/W.mag v (b%W.md v)):=⟨Int.ediv_nonneg x0 (by omega),by have:=W.zx x0 (show 0≤W.mag v (b%W.md v)by omega);omega⟩
 have uy:W.U (W.mag v (a%W.md v)%W.mag v (b%W.md v)):=⟨Int.emod_nonneg _ (by omega),by
  have e1:=Int.emod_add_mul_ediv (W.mag v (a%W.md v)) (W.mag v (b%W.md v))
  have e2:=Int.mul_nonneg (show 0≤W.mag v (b%W.md v)by omega) (Int.ediv_nonneg x0 (show 0≤W.mag v (b%W.md v)by omega))
  omega⟩
 cases s
 ·refine(BL a b v _ _ h hA hB (by omega) a0 (by omega) hz' w).mono ?_
  rintro e w'⟨rfl,hd⟩
  exact⟨W.Nv (W.u64 rfl) (W.u64 rfl) rfl,hd⟩
 ·rcases hna:W.ng v (a%W.md v)with _|_<;>rcases hnb:W.ng v (b%W.md v)with _|_
  ·refine(KI a b v _ _ _ _ h hA hB a0 a1 b0 b1 hz' rfl rfl hna hnb x0 (by omega) y0 w).mono ?_
   rintro e w'⟨rfl,hd⟩
   obtain⟨e1,e2⟩:=W.Ug v a b _ _ rfl rfl hna hnb x0 (by omega)
   exact⟨W.Nv (W.u64 (by rw [hm _ ux,e1])) (W.u64 (by rw [hm _ uy,e2])) rfl,hd⟩
  ·refine(Nq a b v _ _ _ _ h hA hB a0 a1 b0 b1 hz' rfl rfl hna hnb x0 (by omega) y0 w).mono ?_
   rintro e w'⟨rfl,hd⟩
   obtain⟨e1,e2⟩:=W.U8 v a b _ _ rfl rfl hna hnb x0 (by omega)
   exact⟨W.Nv (W.u64 (by rw [hm _ (W.jT _),W.bY,e1])) (W.u64 (by rw [hm _ uy,e2])) rfl,hd⟩
  ·refine(MO a b v _ _ _ _ h hA hB a0 a1 b0 b1 hz' rfl rfl hna hnb x0 (by omega) y0 w).mono ?_
   rintro e w'⟨rfl,hd⟩
   obtain⟨e1,e2⟩:=W.UL v a b _ _ rfl rfl hna hnb x0 (by omega)
   exact⟨W.Nv (W.u64 (by rw [hm _ (W.jT _),W.bY,e1])) (W.u64 (by rw [hm _ (W.jT _),W.bY,e2])) rfl,hd⟩
  ·refine(Nw a b v _ _ _ _ h hA hB a0 a1 b0 b1 hz' rfl rfl hna hnb x0 (by omega) y0 w).mono ?_
   rintro e w'⟨rfl,hd⟩
   obtain⟨e1,e2⟩:=W.U9 v a b _ _ rfl rfl hna hnb x0 (by omega)
   exact⟨W.Nv (W.u64 (by rw [hm _ ux,e1])) (W.u64 (by rw [hm _ (W.jT _),W.bY,e2])) rfl,hd⟩
theorem Vm(a b v:Int)(s:Bool)(h:W.ok v)(ha:W.U a)(hb:W.U b)(hz:b%W.md v≠0)(w:World):
 Calls Try.prog 69 #[.int .u64 a, .int .u64 b, .int .i64 v, .bool s] w fun e w'=>e= .returned (.tuple #[.int .u64 (W.quo v s a b), .int .i64 0])∧sG w w':=by
 have Hz:=Lib.hid hz;clear hz
 go_enter Try.func69,Try.ntmps69
 go_wp2_with(first|(go_at_call 94;refine(BK _ _ _ _ h ha hb Hz.out _).mono ?_;rintro e w'⟨rfl,hd⟩;have Hd:=Lib.hid hd;clear hd))
 go_ret2
 exact⟨rfl,Hd.out⟩
theorem div_zero(a b v:Int)(s:Bool)(h:W.ok v)(hb:W.U b)(hz:b%W.md v=0)(w:World):
 Calls Try.prog 69 #[.int .u64 a, .int .u64 b, .int .i64 v, .bool s] w fun e w'=>e= .returned (.tuple #[.int .u64 0, .int .i64 10])∧w=w':=by
 have Hz:=Lib.hid hz;clear hz
 go_enter Try.func69,Try.ntmps69
 go_wp2_with(first|(go_at_call 94;refine(vW _ _ _ _ h (by rw [W.Lc v h b hb];exact Hz.out) _).mono ?_;rintro e w'⟨rfl,rfl⟩))
 go_ret2
 exact⟨rfl,rfl⟩
theorem abG(a b v:Int)(s:Bool)(h:¬W.ok v)(w:World):
 Calls Try.prog 69 #[.int .u64 a, .int .u64 b, .int .i64 v, .bool s] w fun e w'=>e= .returned (.tuple #[.int .u64 0, .int .i64 1])∧w=w':=by
 go_enter Try.func69,Try.ntmps69
 go_wp2_with(first|(go_at_call 94;refine(zZ _ _ _ _ h _).mono ?_;rintro e w'⟨rfl,rfl⟩))
 go_ret2
 exact⟨rfl,rfl⟩
theorem Vo(a b v:Int)(s:Bool)(h:W.ok v)(ha:W.U a)(hb:W.U b)(hz:b%W.md v≠0)(w:World):
 Calls Try.prog 70 #[.int .u64 a, .int .u64 b, .int .i64 v, .bool s] w fun e w'=>e= .returned (.tuple #[.int .u64 (W.rem v s a b), .int .i64 0])∧sG w w':=by
 have Hz:=Lib.hid hz;clear hz
 go_enter Try.func70,Try.ntmps70
 go_wp2_with(first|(go_at_call 94;refine(BK _ _ _ _ h ha hb Hz.out _).mono ?_;rintro e w'⟨rfl,hd⟩;have Hd:=Lib.hid hd;clear hd))
 go_ret2
 exact⟨rfl,Hd.out⟩
theorem NK(a b v:Int)(s:Bool)(h:W.ok v)(hb:W.U b)(hz:b%W.md v=0)(w:World):
 Calls Try.prog 70 #[.int .u64 a, .int .u64 b, .int .i64 v, .bool s] w fun e w'=>e= .returned (.tuple #[.int .u64 0, .int .i64 10])∧w=w':=by
 have Hz:=Lib.hid hz;clear hz
 go_enter Try.func70,Try.ntmps70
 go_wp2_with(first|(go_at_call 94;refine(vW _ _ _ _ h (by rw [W.Lc v h b hb];exact Hz.out) _).mono ?_;rintro e w'⟨rfl,rfl⟩))
 go_ret2
 exact⟨rfl,rfl⟩
theorem aam(a b v:Int)(s:Bool)(h:¬W.ok v)(w:World):
 Calls Try.prog 70 #[.int .u64 a, .int .u64 b, .int .i64 v, .bool s] w fun e w'=>e= .returned (.tuple #[.int .u64 0, .int .i64 1])∧w=w':=by
 go_enter Try.func70,Try.ntmps70
 go_wp2_with(first|(go_at_call 94;refine(zZ _ _ _ _ h _).mono ?_;rintro e w'⟨rfl,rfl⟩))
 go_ret2
 exact⟨rfl,rfl⟩
end
section
open Go.RowKit
theorem Try.infoI:(Try.prog.info? 3).map (fun i=>(i.zero,i.size,i.bytes))=some (some (.int .i64 0),1,8):=by kernel_rfl
def W.dn(j:Nat)(x:Int):Int:=x/65536^j
def W.split:Nat→Int→List Int
 |0,_=>[]
 |k+1,x=>W.split k x++[W.dn k x%65536]
def W.nw(v:Int):Nat:=if v=32 then 2 else if v=64 then 4 else 1
theorem W.WU(k:Nat)(x:Int):(W.split k x).length=k:=by
 induction k with
 |zero=>rfl
 |succ k ih=>simp [W.split,ih]
theorem W.aad(x:Int):W.dn 0 x=x:=by simp [W.dn]
theorem W.Z4(j:Nat)(x:Int):W.dn (j+1) x=W.dn j x/65536:=by
 have hp:(0:Int)<65536^j:=Int.pow_pos (by decide)
 unfold W.dn;rw [Int.pow_succ,Int.ediv_ediv,if_neg (by omega),Int.sub_zero]
theorem W.aeY(j:Nat)(x:Int)(h:W.U x):W.U (W.dn j x):=by
 have hp:(0:Int)<65536^j:=Int.pow_pos (by decide)
 have:=W.zx h.1 (Int.le_of_lt hp)
 exact⟨Int.ediv_nonneg h.1 (Int.le_of_lt hp),by have:=h.2;unfold W.dn;omega⟩
end
section
open Go.RowKit
abbrev W.ty(b:Int)(s:Bool):Value:= .agg #[.int .i64 b, .bool s]
def W.pb(b:Int):Int:=if b<16 then 16 else b
def W.ps(b:Int)(s:Bool):Bool:=if b<16 then true else s
theorem W.Tj{a b:Int}{s t:Bool}(h:a=b)(k:s=t):Ending.returned (W.ty a s)= .returned (W.ty b t):=by rw [h,k]
def Ty(w:World)(B:Nat)(b:Int)(s:Bool):Prop:=
 w.cell? ⟨B,0,none⟩=some (.int .i64 b)∧w.cell? ⟨B,1,none⟩=some (.bool s)∧w.frozen? ⟨B,0,none⟩=false∧w.frozen? ⟨B,1,none⟩=false
theorem Ty.below{a w1:World}{B:Nat}{b:Int}{s:Bool}(h:Ty a B b s)(hb:Below a.heap.size a w1):Ty w1 B b s:=by
 obtain⟨h0,h1,f0,f1⟩:=h
 have hlt:B<a.heap.size:=World.block_lt_of_cell? a ⟨B,0,none⟩ h0
 obtain⟨hc,hf⟩:=xG hb
 exact⟨by rw [hc B _ hlt];exact h0,by rw [hc B _ hlt];exact h1,by rw [hf B _ hlt];exact f0,by rw [hf B _ hlt];exact f1⟩
theorem Ty.new(w:World){B:Nat}(hB:B=w.heap.size)(b:Int)(s:Bool)(t:TypeId):Ty (w.alloc (.cells #[.int .i64 b, .bool s] t)) B b s:=by
 subst hB;exact⟨by simp,by simp,by simp,by simp⟩
theorem Ty.alloc{w:World}{B:Nat}{b:Int}{s:Bool}(h:Ty w B b s)(o:Obj):Ty (w.alloc o) B b s:=h.below (Ext.alloc (Below.refl _ _) o)
theorem gX(w:World):Calls Try.prog 43 #[] w fun e w'=>e= .returned (W.ty 16 true)∧Below w.heap.size w w':=by
 go_enter Try.func43,Try.ntmps43
 go_wp2
 exact bodyPost_ret (v:=W.ty 16 true) (by simp [results,Try.results43,go_sem]) rfl ⟨rfl,by repeat(first|exact Below.refl _ _|refine Ext.setCell ?_ (by simp) _|refine Ext.alloc ?_ _)⟩
theorem CJ(w:World):Calls Try.prog 64 #[] w fun e w'=>e= .returned (W.ty 16 false)∧Below w.heap.size w w':=by
 go_enter Try.func64,Try.ntmps64
 go_wp2
 exact bodyPost_ret (v:=W.ty 16 false) (by simp [results,Try.results64,go_sem]) rfl ⟨rfl,by repeat(first|exact Below.refl _ _|refine Ext.setCell ?_ (by simp) _|refine Ext.alloc ?_ _)⟩
theorem dB(b:Int)(s:Bool)(w:World):Calls Try.prog 61 #[W.ty b s] w fun e w'=>e= .returned (W.ty (W.pb b) (W.ps b s))∧Below w.heap.size w w':=by
 by_cases h:b<16
 ·go_enter Try.func61,Try.ntmps61
  go_wp2_with(first|(go_at_call 43;refine(gX _).mono ?_;rintro e w1⟨rfl,hb⟩;have HB:=Lib.hid hb;obtain⟨k0,k1,g0,g1⟩:=Ty.below (Ty.new _ (B:=w.heap.size+1) (by simp) 0 false _) hb;clear hb))
  exact bodyPost_ret (v:=W.ty 16 true) (by simp [results,Try.results61,go_sem,k0,k1,g0,g1]) rfl ⟨W.Tj (by simp [W.pb,h]) (by simp [W.ps,h]),Ext.setCell (Ext.setCell (Ext.trans (Ext.alloc (Ext.alloc (Below.refl _ _) _) _) HB.out) (by simp) _) (by simp) _⟩
 ·go_enter Try.func61,Try.ntmps61
  go_wp2
  exact bodyPost_ret (v:=W.ty b s) (by simp [results,Try.results61,go_sem]) rfl ⟨W.Tj (by unfold W.pb;split<;>omega) (by unfold W.ps;split<;>first|omega|rfl),by repeat(first|exact Below.refl _ _|refine Ext.setCell ?_ (by simp) _|refine Ext.alloc ?_ _)⟩
theorem vX(b:Int)(s:Bool)(h:W.ok b)(w:World):Calls Try.prog 38 #[W.ty b s] w fun e w'=>e= .returned (.bool true)∧Below w.heap.size w w':=by
 go_enter Try.func38,Try.ntmps38
 go_wp2_with(first|(go_at_call 56;refine(jd _ h _).mono ?_;rintro e w'⟨rfl,rfl⟩))
 go_ret
 exact⟨rfl,Ext.alloc (Below.refl _ _) _⟩
theorem BQ(b:Int)(s:Bool)(h:¬W.ok b)(w:World):Calls Try.prog 38 #[W.ty b s] w fun e w'=>e= .returned (.bool false)∧Below w.heap.size w w':=by
 go_enter Try.func38,Try.ntmps38
 go_wp2_with(first|(go_at_call 56;refine(iZ _ h _).mono ?_;rintro e w'⟨rfl,rfl⟩))
 go_ret
 exact⟨rfl,Ext.alloc (Below.refl _ _) _⟩
theorem Bo(b:Bool)(w:World):Calls Try.prog 63 #[.bool b] w fun e w'=>e= .returned (.int .u64 (if b then 1 else 0))∧w=w':=by
 cases b
 ·go_enter Try.func63,Try.ntmps63
  go_wp2
  go_ret
  exact⟨rfl,rfl⟩
 ·go_enter Try.func63,Try.ntmps63
  go_wp2
  go_ret
  exact⟨rfl,rfl⟩
end
section
open Go.RowKit
def W.conv(fb:Int)(fs:Bool)(tb x:Int):Int:=(if fs then W.sg fb x else W.cut fb x)%W.md tb
theorem W.uX(fb:Int)(fs:Bool)(tb x:Int):W.U (W.conv fb fs tb x):=⟨W.dZ _ _,W.mod_le _ _⟩
theorem fC(x fb tb:Int)(fs ts:Bool)(hf:W.ok fb)(ht:W.ok tb)(hx:W.U x)(w:World):
 Calls Try.prog 44 #[.int .u64 x,W.ty fb fs,W.ty tb ts] w fun e w'=>e= .returned (.int .u64 (W.conv fb fs tb x))∧Below w.heap.size w w':=by
 cases fs
 ·go_enter Try.func44,Try.ntmps44
  go_wp2_with(first|(go_at_call 60;refine(Es _ _ (by assumption) (by first|assumption|exact W.YK _ _) _).mono ?_;rintro e w'⟨rfl,rfl⟩))
  go_ret
  exact⟨W.Vh (W.u64 rfl),Ext.alloc (Ext.alloc (Below.refl _ _) _) _⟩
 ·go_enter Try.func44,Try.ntmps44
  go_wp2_with(first|(go_at_call 59;refine(lG _ _ hf _).mono ?_;rintro e w'⟨rfl,rfl⟩)|(go_at_call 60;refine(Es _ _ (by assumption) (W.jT _) _).mono ?_;rintro e w'⟨rfl,rfl⟩))
  go_ret
  exact⟨W.Vh (W.u64 (by unfold W.cut W.conv;rw [W.bY];rfl)),Ext.alloc (Ext.alloc (Below.refl _ _) _) _⟩
def W.cmp(kind:Int)(less more:Bool):Bool:=
 if kind=16 then less else if kind=17 then !more else if kind=18 then more else if kind=19 then !less else if kind=20 then !less&&!more else less||more
theorem CO(kind a b v:Int)(s L M:Bool)(hv:W.ok v)(ha:W.U a)(hb:W.U b)(hL:W.less v s a b=L)(hM:W.less v s b a=M)(w:World):
 Calls Try.prog 72 #[.int .i64 kind, .int .u64 a, .int .u64 b,W.ty v s] w fun e w'=>e= .returned (.bool (W.cmp kind L M))∧Below w.heap.size w w':=by
 have HL:=Lib.hid hL;have HM:=Lib.hid hM;clear hL hM
 by_cases h1:kind=16
 ·subst h1
  go_enter Try.func72,Try.ntmps72
  go_wp2_with(first|(go_at_call 96;refine(jh _ _ _ _ hv (by assumption) (by assumption) _).mono ?_;simp only [HL.out,HM.out];rintro e w'⟨rfl,rfl⟩))
  go_ret
  exact⟨rfl,Ext.alloc (Below.refl _ _) _⟩
 by_cases h2:kind=17
 ·subst h2
  go_enter Try.func72,Try.ntmps72
  go_wp2_with(first|(go_at_call 96;refine(jh _ _ _ _ hv (by assumption) (by assumption) _).mono ?_;simp only [HL.out,HM.out];rintro e w'⟨rfl,rfl⟩))
  go_ret
  exact⟨rfl,Ext.alloc (Below.refl _ _) _⟩
 by_cases h3:kind=18
 ·subst h3
  go_enter Try.func72,Try.ntmps72
  go_wp2_with(first|(go_at_call 96;refine(jh _ _ _ _ hv (by assumption) (by assumption) _).mono ?_;simp only [HL.out,HM.out];rintro e w'⟨rfl,rfl⟩))
  go_ret
  exact⟨rfl,Ext.alloc (Below.refl _ _) _⟩
 by_cases h4:kind=19
 ·subst h4
  go_enter Try.func72,Try.ntmps72
  go_wp2_with(first|(go_at_call 96;refine(jh _ _ _ _ hv (by assumption) (by assumption) _).mono ?_;simp only [HL.out,HM.out];rintro e w'⟨rfl,rfl⟩))
  go_ret
  exact⟨rfl,Ext.alloc (Below.refl _ _) _⟩
 by_cases h5:kind=20
 ·subst h5
  cases L
  ·go_enter Try.func72,Try.ntmps72
   go_wp2_with(first|(go_at_call 96;refine(jh _ _ _ _ hv (by assumption) (by assumption) _).mono ?_;simp only [HL.out,HM.out];rintro e w'⟨rfl,rfl⟩))
   go_ret
   exact⟨rfl,Ext.alloc (Below.refl _ _) _⟩
  ·go_enter Try.func72,Try.ntmps72
   go_wp2_with(first|(go_at_call 96;refine(jh _ _ _ _ hv (by assumption) (by assumption) _).mono ?_;simp only [HL.out,HM.out];rintro e w'⟨rfl,rfl⟩))
   go_ret
   exact⟨rfl,Ext.alloc (Below.refl _ _) _⟩
 ·have e:W.cmp kind L M=(L||M):=by unfold W.cmp;rw [if_neg h1,if_neg h2,if_neg h3,if_neg h4,if_neg h5]
  rw [e]
  cases L
  ·go_enter Try.func72,Try.ntmps72
   go_wp2_with(first|(go_at_call 96;refine(jh _ _ _ _ hv (by assumption) (by assumption) _).mono ?_;simp only [HL.out,HM.out];rintro e w'⟨rfl,rfl⟩))
   go_ret
   exact⟨rfl,Ext.alloc (Below.refl _ _) _⟩
  ·go_enter Try.func72,Try.ntmps72
   go_wp2_with(first|(go_at_call 96;refine(jh _ _ _ _ hv (by assumption) (by assumption) _).mono ?_;simp only [HL.out,HM.out];rintro e w'⟨rfl,rfl⟩))
   go_ret
   exact⟨rfl,Ext.alloc (Below.refl _ _) _⟩
theorem ER(kind a b v:Int)(s:Bool)(hv:W.ok v)(ha:W.U a)(hb:W.U b)(w:World):
 Calls Try.prog 72 #[.int .i64 kind, .int .u64 a, .int .u64 b,W.ty v s] w fun e w'=>e= .returned (.bool (W.cmp kind (W.less v s a b) (W.less v s b a)))∧Below w.heap.size w w':=
 CO kind a b v s _ _ hv ha hb rfl rfl w
end
section
open Go.RowKit Go.Maps
theorem law9:Keyed Try.prog 9:=string_keyed Try.underlying9
def W.pz(b:Int)(s:Bool):DataW Unit:= .agg [.lit (.int .i64 b), .lit (.bool s)]
def W.jk:Value→Option (DataW Unit×List MemPlace)
 | .agg cs=>match cs.toList with
   |[.int .i64 b, .bool s]=>some (W.pz b s,[])
   |_=>none
 |_=>none
theorem W.nN(b:Int)(s:Bool):W.jk (W.ty b s)=some (W.pz b s,[]):=rfl
theorem W.wu{v:Value}{y:DataW Unit×List MemPlace}(h:W.jk v=some y):∃c:Int×Bool,v=W.ty c.1 c.2:=by
 unfold W.jk at h
 split at h
 ·rename_i cs
  split at h
  ·rename_i b s he
   refine⟨⟨b,s⟩,?_⟩
   obtain⟨l⟩:=cs
   simp at he
   rw [he]
  ·cases h
 ·cases h
theorem W.ug{b b':Int}{s s':Bool}(h:W.pz b s=W.pz b' s'):b=b'∧s=s':=by
 unfold W.pz at h
 simp at h
 exact h
def W.names:DataW Unit:=
 ((((((((DataW.map []).put (.string [105,56]) (W.pz 8 true)).put (.string [117,56]) (W.pz 8 false)).put (.string [105,49,54]) (W.pz 16 true)).put (.string [117,49,54]) (W.pz 16 false)).put
   (.string [105,51,50]) (W.pz 32 true)).put (.string [117,51,50]) (W.pz 32 false)).put (.string [105,54,52]) (W.pz 64 true)).put (.string [117,54,52]) (W.pz 64 false)
theorem iG{w:World}{B n:Nat}{D:DataW Unit}(h:w.ownsMap Try.prog 9 W.jk B n D)(hn:n<maxLen)(l:List UInt8)(hl:l.length≤maxLen)(b:Int)(s:Bool):
 ∃w',(Instr.mapUpdate 116 (.map (some B)) (.string ⟨l.toArray⟩) (.agg #[.int .i64 b, .bool s])).run Try.prog w= .ok () w'∧w'.ownsMap Try.prog 9 W.jk B (n+1) (D.put (.string l) (W.pz b s))∧w.grownBy w' (some B):=by
 have hkey:keyOf Try.prog 9 (.string ⟨l.toArray⟩)=some (.string l):=WideMaps.keyOf_string_mk Try.underlying9 (s:=⟨l.toArray⟩) (by simpa [ByteArray.size]using hl)
 exact h.update law9 Try.underlying116 hn hkey (W.nN b s)
theorem dX{w a w':World}{B:Nat}(h:Below w.heap.size w a)(hg:a.grownBy w' (some B))(hB:w.heap.size≤B):Below w.heap.size w w':=
 Below.grown h hg h.size (fun k hk=>by cases hk;exact hB)
theorem LU(w:World):Calls Try.prog 52 #[] w fun e w'=>e= .returned (.map (some w.heap.size))∧w'.ownsMap Try.prog 9 W.jk w.heap.size 8 W.names∧Below w.heap.size w w'∧w.heap.size<w'.heap.size:=by
 have o0:=World.ownsMap_made (H:=Unit) w Try.prog 9 W.jk
 have b0:=Ext.alloc (Below.refl w.heap.size w) (.map #[] 0)
 obtain⟨w1,r1,o1,g1⟩:=iG o0 (by unfold maxLen;omega) [105,56] (by unfold maxLen;decide) 8 true
 have b1:=dX b0 g1 (Nat.le_refl _)
 obtain⟨w2,r2,o2,g2⟩:=iG o1 (by unfold maxLen;omega) [117,56] (by unfold maxLen;decide) 8 false
 have b2:=dX b1 g2 (Nat.le_refl _)
 obtain⟨w3,r3,o3,g3⟩:=iG o2 (by unfold maxLen;omega) [105,49,54] (by unfold maxLen;decide) 16 true
 have b3:=dX b2 g3 (Nat.le_refl _)
 obtain⟨w4,r4,o4,g4⟩:=iG o3 (by unfold maxLen;omega) [117,49,54] (by unfold maxLen;decide) 16 false
 have b4:=dX b3 g4 (Nat.le_refl _)
 obtain⟨w5,r5,o5,g5⟩:=iG o4 (by unfold maxLen;omega) [105,51,50] (by unfold maxLen;decide) 32 true
 have b5:=dX b4 g5 (Nat.le_refl _)
 obtain⟨w6,r6,o6,g6⟩:=iG o5 (by unfold maxLen;omega) [117,51,50] (by unfold maxLen;decide) 32 false
 have b6:=dX b5 g6 (Nat.le_refl _)
 obtain⟨w7,r7,o7,g7⟩:=iG o6 (by unfold maxLen;omega) [105,54,52] (by unfold maxLen;decide) 64 true
 have b7:=dX b6 g7 (Nat.le_refl _)
 obtain⟨w8,r8,o8,g8⟩:=iG o7 (by unfold maxLen;omega) [117,54,52] (by unfold maxLen;decide) 64 false
 have b8:=dX b7 g8 (Nat.le_refl _)
 have O8:=Lib.hid o8;have B8:=Lib.hid b8
 clear o0 b0 o1 g1 b1 o2 g2 b2 o3 g3 b3 o4 g4 b4 o5 g5 b5 o6 g6 b6 o7 g7 b7 o8 g8 b8
 have hmm:=run_makeMap (P:=Try.prog)
 go_enter Try.func52,Try.ntmps52
 go_wp2
 go_ret
 exact⟨rfl,O8.out,B8.out,O8.out.lt⟩
end
section
open Go.RowKit Go.Maps
def W.tn(b:Int)(s:Bool):List UInt8:=
 if b=8 then(if s then[105,56]else[117,56])else if b=16 then(if s then[105,49,54]else[117,49,54])else if b=32 then(if s then[105,51,50]else[117,51,50])else(if s then[105,54,52]else[117,54,52])
def W.nt(l:List UInt8):Int×Bool×Bool:=
 if l=[105,56]then(8,true,true)else if l=[117,56]then(8,false,true)else if l=[105,49,54]then(16,true,true)else if l=[117,49,54]then(16,false,true)
 else if l=[105,51,50]then(32,true,true)else if l=[117,51,50]then(32,false,true)else if l=[105,54,52]then(64,true,true)else if l=[117,54,52]then(64,false,true)else(0,false,false)
theorem W.uM:W.names= .map [(.string [105,49,54],W.pz 16 true),(.string [105,51,50],W.pz 32 true),(.string [105,54,52],W.pz 64 true),(.string [105,56],W.pz 8 true),
 (.string [117,49,54],W.pz 16 false),(.string [117,51,50],W.pz 32 false),(.string [117,54,52],W.pz 64 false),(.string [117,56],W.pz 8 false)]:=by
 rfl
theorem W.pO(l:List UInt8)(z:DataW Unit):W.names.atKey (.string l) z=if(W.nt l).2.2 then W.pz (W.nt l).1 (W.nt l).2.1 else z:=by
 rw [W.uM]
 unfold W.nt
 by_cases h1:l=[105,56]
 ·subst h1;rfl
 by_cases h2:l=[117,56]
 ·subst h2;rfl
 by_cases h3:l=[105,49,54]
 ·subst h3;rfl
 by_cases h4:l=[117,49,54]
 ·subst h4;rfl
 by_cases h5:l=[105,51,50]
 ·subst h5;rfl
 by_cases h6:l=[117,51,50]
 ·subst h6;rfl
 by_cases h7:l=[105,54,52]
 ·subst h7;rfl
 by_cases h8:l=[117,54,52]
 ·subst h8;rfl
 have g:∀m:List UInt8,l≠m→(Lit.string m).sameKey (.string l)=false:=fun m h=>by simp [Lit.sameKey];exact fun e=>h e.symm
 simp [h1,h2,h3,h4,h5,h6,h7,h8,DataW.atKey,List.find?,g]
theorem W.yh(l:List UInt8):Maps.has W.names (.string l)=(W.nt l).2.2:=by
 rw [W.uM]
 unfold W.nt
 by_cases h1:l=[105,56]
 ·subst h1;rfl
 by_cases h2:l=[117,56]
 ·subst h2;rfl
 by_cases h3:l=[105,49,54]
 ·subst h3;rfl
 by_cases h4:l=[117,49,54]
 ·subst h4;rfl
 by_cases h5:l=[105,51,50]
 ·subst h5;rfl
 by_cases h6:l=[117,51,50]
 ·subst h6;rfl
 by_cases h7:l=[105,54,52]
 ·subst h7;rfl
 by_cases h8:l=[117,54,52]
 ·subst h8;rfl
 have g:∀m:List UInt8,l≠m→(Lit.string m).sameKey (.string l)=false:=fun m h=>by simp [Lit.sameKey];exact fun e=>h e.symm
 simp [h1,h2,h3,h4,h5,h6,h7,h8,Maps.has,g]
theorem W.Xe(b:Int)(s:Bool)(h:W.ok b):W.nt (W.tn b s)=(b,s,true):=by
 rcases h with rfl|rfl|rfl|rfl<;>cases s<;>rfl
theorem W.Ym(l:List UInt8)(h:(W.nt l).2.2=true):W.ok (W.nt l).1∧W.tn (W.nt l).1 (W.nt l).2.1=l:=by
 unfold W.nt at*
 by_cases h1:l=[105,56]
 ·subst h1;exact⟨by simp [W.ok],rfl⟩
 by_cases h2:l=[117,56]
 ·subst h2;exact⟨by simp [W.ok],rfl⟩
 by_cases h3:l=[105,49,54]
 ·subst h3;exact⟨by simp [W.ok],rfl⟩
 by_cases h4:l=[117,49,54]
 ·subst h4;exact⟨by simp [W.ok],rfl⟩
 by_cases h5:l=[105,51,50]
 ·subst h5;exact⟨by simp [W.ok],rfl⟩
 by_cases h6:l=[117,51,50]
 ·subst h6;exact⟨by simp [W.ok],rfl⟩
 by_cases h7:l=[105,54,52]
 ·subst h7;exact⟨by simp [W.ok],rfl⟩
 by_cases h8:l=[117,54,52]
 ·subst h8;exact⟨by simp [W.ok],rfl⟩
 simp [h1,h2,h3,h4,h5,h6,h7,h8]at h
end
section
open Go.RowKit Go.Maps
def W.Past(b:Int)(s:Bool)(left:Lit→Bool):Prop:=∀l:List UInt8,W.nt l=(b,s,true)→left (.string l)=true
theorem W.Past.start(b:Int)(s:Bool):W.Past b s (Maps.has W.names):=fun l h=>by rw [W.yh,h]
theorem W.Past.step{b c:Int}{s t:Bool}{left:Lit→Bool}{x:List UInt8}(h:W.Past b s left)(hx:∀zd,W.names.atKey (.string x) zd=W.pz c t)(hne:¬(b=c∧s=t)):W.Past b s (fun z=>left z&&!z.sameKey (.string x)):=fun l hl=>by
 have h1:=h l hl
 have:l≠x:=fun e=>by
  subst e
  have:=hx .nil
  rw [W.pO,hl]at this
  exact hne (W.ug this)
 simp [h1,Lit.sameKey,this]
theorem W.Past.done{b:Int}{s:Bool}{left:Lit→Bool}(h:W.Past b s left)(hl:∀kl,left kl=false):¬W.ok b:=fun hb=>by
 have:=h (W.tn b s) (W.Xe b s hb)
 rw [hl]at this;cases this
theorem W.Past.hit{x:List UInt8}{c:Int}{t:Bool}(hx:∀zd,W.names.atKey (.string x) zd=W.pz c t):W.ok c∧W.tn c t=x:=by
 have h1:=hx .nil
 rw [W.pO]at h1
 by_cases h:(W.nt x).2.2=true
 ·rw [if_pos h]at h1
  obtain⟨e1,e2⟩:=W.ug h1
  have:=W.Ym x h
  rw [e1,e2]at this;exact this
 ·rw [if_neg h]at h1
  have h2:=hx (.ptr .nil)
  rw [W.pO,if_neg h,←h1]at h2
  cases h2
theorem Ty.grown{w w':World}{B r:Nat}{b:Int}{s:Bool}(h:Ty w B b s)(hg:w.grownBy w' (some r))(hne:B≠r):Ty w' B b s:=by
 obtain⟨h0,h1,f0,f1⟩:=h
 have hlt:B<w.heap.size:=World.block_lt_of_cell? w ⟨B,0,none⟩ h0
 have e:w'.heap[B]?=w.heap[B]?:=hg.block B hlt (fun e=>hne (by simpa using e))
 exact⟨by rw [World.cell?_of_block (w:=w) e];exact h0,by rw [World.cell?_of_block (w:=w) e];exact h1,by rw [World.frozen?_of_block (w:=w) e];exact f0,by rw [World.frozen?_of_block (w:=w) e];exact f1⟩
theorem Ty.abf{w w':World}{B:Nat}{b:Int}{s:Bool}(h:Ty w B b s)(hg:w.grownBy w' none):Ty w' B b s:=by
 obtain⟨h0,h1,f0,f1⟩:=h
 have hlt:B<w.heap.size:=World.block_lt_of_cell? w ⟨B,0,none⟩ h0
 have e:w'.heap[B]?=w.heap[B]?:=hg.block B hlt (fun e=>by cases e)
 exact⟨by rw [World.cell?_of_block (w:=w) e];exact h0,by rw [World.cell?_of_block (w:=w) e];exact h1,by rw [World.frozen?_of_block (w:=w) e];exact f0,by rw [World.frozen?_of_block (w:=w) e];exact f1⟩
theorem QY{x y:List UInt8}(h:encStr x=encStr y):x=y:=by
 simp [encStr]at h
 exact h
theorem GN(w:World){ops:Array Oper}{rest:List Oper}{o:Oper}{a:Act}{Q:Exit→Act→World→Prop}(hg:o.guard=none)(it:Operand)(hop:o.op=Op.next it false)
 (B r:Nat)(left:Lit→Bool)(cnt:Nat)(b:Int)(s:Bool)(C:Nat)(hit:a.eval it= .pointer (some ⟨r,0,none⟩))(h:w.ranges Try.prog 9 W.jk B r 8 W.names left cnt)(hty:Ty w C b s)(hC:C≠r)
 (hDone:Hid (∀kl,left kl=false)→wpList Try.prog ops Q rest (a.put o.dst (.tuple #[.bool false])) w)
 (hMore:∀(x:List UInt8)(c:Int)(t:Bool)(w':World)(cnt':Nat),Hid (∀zd,W.names.atKey (.string x) zd=W.pz c t)→Hid (w'.ranges Try.prog 9 W.jk B r 8 W.names (fun z=>left z&&!z.sameKey (.string x)) cnt')→Hid (cnt'<cnt)→
   Hid (w.grownBy w' (some r))→Hid (w'.heap.size=w.heap.size)→w'.cell? ⟨C,0,none⟩=some (.int .i64 b)→w'.cell? ⟨C,1,none⟩=some (.bool s)→w'.frozen? ⟨C,0,none⟩=false→w'.frozen? ⟨C,1,none⟩=false→C<w'.heap.size→
   (Instr.entry (.pointer (some ⟨r,0,none⟩))).run Try.prog w'= .ok (.tuple #[encStr x,W.ty c t]) w'→wpList Try.prog ops Q rest (a.put o.dst (.tuple #[.bool true,encStr x,W.ty c t])) w'):
 wpList Try.prog ops Q (o::rest) a w:=by
 refine wpList_next_ranges w hg it hop 9 law9 W.jk encStr (fun c:Int×Bool=>W.ty c.1 c.2) (fun key kl h=>by obtain⟨x,hx,_⟩:=Maps.keyOf_str Try.underlying9 h;exact⟨x,hx⟩) (fun v y h=>W.wu h) B r 8 _ _ _ hit h (fun _ hl0=>hDone hl0) ?_
 intro x c kl y w2 cnt2 hkey hlk hv hat hrg2 hlt2 hg2 hs2 hen
 obtain⟨x',ex,rfl,_⟩:=Maps.keyOf_str Try.underlying9 hkey
 obtain rfl:=QY ex
 obtain⟨c,t⟩:=c
 rw [W.nN]at hv
 obtain rfl:(W.pz c t,[])=y:=Option.some.inj hv
 obtain⟨y0,y1,y2,y3⟩:=hty.grown hg2 hC
 exact hMore x c t w2 cnt2 hat hrg2 hlt2 hg2 hs2 y0 y1 y2 y3 (World.block_lt_of_cell? w2 ⟨C,0,none⟩ y0) hen
def W.name(b:Int)(s:Bool):List UInt8:=if b=0 then[118,111,105,100]else if b=8∨b=16∨b=32∨b=64 then W.tn b s else[]
end
section
open Go.RowKit Go.Maps
theorem Y6(w:World):(zeroValue 33).run Try.prog w= .ok (W.ty 0 false) w:=by kernel_rfl
theorem Ei(w:World)(B:Nat)(h:w.ownsMap Try.prog 9 W.jk B 8 W.names)(l:ByteArray)(hl:l.size≤maxLen):
 (Instr.lookup 116 (.map (some B)) (.string l) true).run Try.prog w= .ok (.tuple #[.agg #[.int .i64 (W.nt l.data.toList).1, .bool (W.nt l.data.toList).2.1], .bool (W.nt l.data.toList).2.2]) w:=by
 obtain⟨v,ps,hrun,hv⟩:=h.look_ok law9 Try.underlying116 (Y6 w) (W.nN 0 false) (WideMaps.keyOf_string_mk Try.underlying9 hl)
 obtain⟨⟨c,t⟩,rfl⟩:=W.wu hv
 rw [W.nN,W.pO]at hv
 rw [hrun,W.yh]
 have e:W.pz c t=if(W.nt l.data.toList).2.2 then W.pz (W.nt l.data.toList).1 (W.nt l.data.toList).2.1 else W.pz 0 false:=congrArg Prod.fst (Option.some.inj hv)
 by_cases hh:(W.nt l.data.toList).2.2=true
 ·rw [if_pos hh]at e
  obtain⟨e1,e2⟩:=W.ug e
  simp only [e1,e2,W.ty]
 ·rw [if_neg hh]at e
  obtain⟨e1,e2⟩:=W.ug e
  have hz:W.nt l.data.toList=(0,false,false):=by
   generalize l.data.toList=m at hh⊢
   unfold W.nt at*
   repeat'(split at hh;·simp at hh)
   simp [*]
  simp only [e1,e2,W.ty,hz]
theorem named_ok(l:ByteArray)(hl:l.size≤maxLen)(w:World):Calls Try.prog 33 #[.string l] w fun e w'=>e= .returned (.tuple #[W.ty (W.nt l.data.toList).1 (W.nt l.data.toList).2.1, .bool (W.nt l.data.toList).2.2])∧Below w.heap.size w w':=by
 obtain⟨B,hB⟩:∃B,B=(W.nt l.data.toList).1:=⟨_,rfl⟩
 obtain⟨S,hS⟩:∃S,S=(W.nt l.data.toList).2.1:=⟨_,rfl⟩
 obtain⟨O,hO⟩:∃O,O=(W.nt l.data.toList).2.2:=⟨_,rfl⟩
 have HL:Hid (∀(w:World)(b:Nat),w.ownsMap Try.prog 9 W.jk b 8 W.names→(Instr.lookup 116 (.map (some b)) (.string l) true).run Try.prog w= .ok (.tuple #[.agg #[.int .i64 B, .bool S], .bool O]) w):=fun w b h=>by rw [hB,hS,hO];exact Ei w b h l hl
 rw [←hB,←hS,←hO]
 clear hB hS hO hl
 go_enter Try.func33,Try.ntmps33
 go_wp2_with(first|(go_at_call 52;refine(LU _).mono ?_;rintro e w1⟨rfl,hown,hb,hlt⟩;have HB:=Lib.hid hb;obtain⟨x0,x1,x2,x3⟩:=Ty.below (Ty.new w rfl 0 false 33) hb;have hlk:=HL.out _ _ hown;have hsz:(w.alloc (.cells #[.int .i64 0, .bool false] 33)).heap.size=w.heap.size+1:=World.size_alloc _ _;rw [hsz]at hlk hlt;have hlt3:w.heap.size<w1.heap.size:=(by omega);clear hsz hb hown))
 refine bodyPost_ret (v:= .tuple #[W.ty B S, .bool O]) (by simp [results,Try.results33,go_sem,x0,x1,x2,x3,hlt3]) rfl ⟨rfl,Ext.alloc (Ext.setCell (Ext.setCell (Ext.trans (Ext.alloc (Below.refl w.heap.size w) _) HB.out) (Nat.le_refl _) _) (Nat.le_refl _) _) _⟩
end
end Go.Proofs.Ythdckndjggljpaa
