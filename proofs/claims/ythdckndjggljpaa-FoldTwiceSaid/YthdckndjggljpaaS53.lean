/- Proofs of this claim, part 53. No condition. -/
import Derived.Test.YthdckndjggljpaaS23
namespace Go.Proofs.Ythdckndjggljpaa
set_option linter.unusedVariables false
set_option linter.unusedSimpArgs false
set_option maxRecDepth 100000
set_option maxHeartbeats 64000000
open Go.RowKit
namespace X
def one:X:= .mk 1 1 16 true ⟨#[]⟩ []
def Hg:X:= .mk 6 0 0 false ⟨#[]⟩ [one]
theorem Qu:gK one:= .mk _ _ _ _ _ _ (by decide) (fun x hx=>by simp at hx)
theorem one_wf:Wf one:= .mk _ _ _ _ _ _ ⟨by decide,by decide⟩ ⟨by decide,by decide⟩ ⟨by decide,by decide⟩ (Nat.zero_le _) (fun x hx=>by simp at hx)
theorem MB:gK Hg:= .mk _ _ _ _ _ _ (by decide) (fun x hx=>by rw [List.mem_singleton]at hx;subst hx;exact Qu)
theorem Pj:Wf Hg:= .mk _ _ _ _ _ _ ⟨by decide,by decide⟩ ⟨by decide,by decide⟩ ⟨by decide,by decide⟩ (Nat.zero_le _) (fun x hx=>by rw [List.mem_singleton]at hx;subst hx;exact one_wf)
theorem MQ:cst Hg=⟨65535,16,true,0⟩:=by
 have h1:cst one=⟨1,16,true,0⟩:=nZ _ _ _ _ _
 rw [kS]
 show Cst.of 6 0 0 false (([one].map cst).getD 0 ⟨0,0,false,0⟩) _=_
 rw [show([one].map cst).getD 0 ⟨0,0,false,0⟩=cst one from rfl,h1]
 unfold Cst.of
 rw [if_neg (by omega),if_neg (by omega),if_neg (by simp),if_neg (by omega),if_pos (by omega)]
 have e:W.un 6 1 16 true=(65535,16,true,0):=by
  rw [(W.tK 6 1 16 true ⟨by decide,by decide⟩).2.2.2.1 rfl (by simp [W.ok])];decide
 rw [e]
theorem II:fold Hg= .mk 5 0 16 true ⟨#[]⟩ [.mk 1 65535 16 false ⟨#[]⟩ []]:=by
 have e1:fold one=one:=by
  rw [fold_eq]
  show bQ 1 1 16 true ⟨#[]⟩ []=_
  unfold bQ
  rw [if_neg (fun h=>absurd h.1 (by decide))];rfl
 rw [fold_eq]
 show bQ 6 0 0 false ⟨#[]⟩ [fold one]=_
 rw [e1]
 unfold bQ
 have hc:cst (.mk 6 0 0 false ⟨#[]⟩ [one])=⟨65535,16,true,0⟩:=MQ
 rw [if_pos ⟨by decide,by rw [hc]⟩,hc]
 unfold lit
 rw [if_neg (by decide)]
 have:(W.lit 65535 true).1=16∧(W.lit 65535 true).2.1=false:=by decide
 show X.mk 5 0 16 true _ [.mk 1 65535 (W.lit 65535 true).1 (W.lit 65535 true).2.1 _ []]=_
 rw [this.1,this.2]
end X
theorem wJ(w:World):Calls Try.prog 9 #[] w fun e w'=>e= .returned (.bool true)∧Below w.heap.size w w':=by
 have HX:Hid (eU (w.alloc (.cells #[.int .i64 1, .int .u64 1, .int .i64 16, .bool true, .string ⟨#[]⟩, .slice none 0 0] 62)) X.Hg (X.cells 6 0 0 false ⟨#[]⟩ (.slice (some ⟨w.heap.size,0,none⟩) 1 1))):=by
  refine .mk 6 0 0 false ⟨#[]⟩ [X.one] (some ⟨w.heap.size,0,none⟩) 1 (fun _=>X.cells 1 1 16 true ⟨#[]⟩ (.slice none 0 0)) (Nat.le_refl _) (by decide) (fun i x hx=>?_) (fun _=>⟨w.heap.size,0,rfl,fun i j u hi hu=>?_⟩)
  ·have:i=0:=by
    have:=(List.getElem?_eq_some_iff.1 hx).1
    simpa using this
   subst this
   simp at hx;subst hx
   exact .mk 1 1 16 true ⟨#[]⟩ [] none 0 (fun _=>[]) (Nat.le_refl _) (Nat.zero_le _) (fun i x hx=>by simp at hx) (fun h0=>absurd h0 (Nat.lt_irrefl _))
  ·have:i=0:=by simpa using hi
   subst this
   have e:0+0*6+j=j:=by omega
   rw [e,(ak.new w 62 _).cell]
   rw [←hu];simp [X.cells]
 have HF:Hid (Calls Try.prog 20 #[.agg #[.int .i64 6, .int .u64 0, .int .i64 0, .bool false, .string ⟨#[]⟩, .slice (some ⟨w.heap.size,0,none⟩) 1 1]] (w.alloc (.cells #[.int .i64 1, .int .u64 1, .int .i64 16, .bool true, .string ⟨#[]⟩, .slice none 0 0] 62)) (fun e w'=>∃g off c2,e= .returned (.agg #[.int .i64 5, .int .u64 0, .int .i64 16, .bool true, .string ⟨#[]⟩, .slice (some ⟨g,off,none⟩) 1 c2])∧w'.cell? ⟨g,off+1,none⟩=some (.int .u64 65535)∧Below w.heap.size w w')):=by
  refine(zI X.Hg X.MB X.Pj _ _ HX.out).mono ?_
  rintro e w'⟨cs,rfl,hin,hb⟩
  rw [X.II]at hin
  obtain⟨a2,c2,rfl⟩:=hin.form
  obtain⟨g,off,ay,cy,rfl,_,_,k1,_⟩:=hin.at.kid (i:=0) rfl
  rw [Nat.zero_mul,Nat.add_zero]at k1
  exact⟨g,off,c2,rfl,k1,Ext.trans (Ext.alloc (Below.refl _ _) _) hb⟩
 clear HX
 go_enter Try.func9,Try.ntmps9
 go_wp2_with(first|(go_at_call 20;refine HF.out.mono ?_;rintro e w1⟨g,off,c2,rfl,hk,hb1⟩;have HB1:=Lib.hid hb1;have hk2:(w1.alloc (.cells #[.int .i64 5, .int .u64 0, .int .i64 16, .bool true, .string ⟨#[]⟩, .slice (some ⟨g,off,none⟩) 1 c2] 62)).cell? ⟨g,off+1,none⟩=some (.int .u64 65535):=(by rw [Below.cell (p:=⟨g,off+1,none⟩) (Ext.alloc (Below.refl _ _) _) (World.block_lt_of_cell? _ _ hk)];exact hk);clear hb1 hk))
 go_ret
 exact⟨rfl,Ext.alloc HB1.out _⟩
end Go.Proofs.Ythdckndjggljpaa
