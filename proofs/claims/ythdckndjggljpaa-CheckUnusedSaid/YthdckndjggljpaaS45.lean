/- Proofs of this claim, part 45. No condition. -/
import Derived.Test.YthdckndjggljpaaS44
namespace Go.Proofs.Ythdckndjggljpaa
set_option linter.unusedVariables false
set_option linter.unusedSimpArgs false
set_option maxRecDepth 100000
set_option maxHeartbeats 64000000
section
open Go.RowKit Go.Maps
theorem Q5{gs:List Gl}:∀{N:Nat},N≤20000→(Pg.gls gs N).1=0→((Pg.gls gs N).2≤20000∧N+gs.length≤(Pg.gls gs N).2)∧∀g∈gs,tyName g.b g.nm.data.toList=0∧0≤g.size∧g.size≤8000∧∀x∈g.ini,X.gK x:=by
 induction gs with
 |nil=>intro N hN _;rw [Pg.gls];exact⟨⟨hN,by simp⟩,fun g hg=>by simp at hg⟩
 |cons g gs ih=>
  intro N hN h
  rw [Pg.gls]at h⊢
  split at h
  ·rename_i h1
   rw [if_pos h1]
   have hg:(Pg.gl g N).2≤20000∧N+1≤(Pg.gl g N).2∧tyName g.b g.nm.data.toList=0∧0≤g.size∧g.size≤8000∧∀x∈g.ini,X.gK x:=by
    unfold Pg.gl at h1⊢
    split at h1
    ·rename_i c;exact absurd h1 c
    rename_i c1
    rw [if_neg c1]
    split at h1
    ·exact absurd h1 (show¬(3:Int)=0 by decide)
    rename_i c2
    rw [if_neg c2]
    split at h1
    ·exact absurd h1 (show¬(5:Int)=0 by decide)
    rename_i c3
    rw [if_neg c3]
    split at h1
    ·exact absurd h1 (show¬(4:Int)=0 by decide)
    rename_i c4
    rw [if_neg c4]
    exact⟨X.lX _ _ (by omega) h1,X.dw (fun y _=>X.cnt_mono y) _ _,Classical.not_not.1 c1,by omega,by omega,X.BM (fun y _=>X.nR y) _ _ h1⟩
   obtain⟨k1,k2⟩:=ih hg.1 h
   refine⟨⟨k1.1,by have:=k1.2;have:=hg.2.1;rw [List.length_cons];omega⟩,fun q hq=>?_⟩
   rcases List.mem_cons.1 hq with rfl|hq
   ·exact hg.2.2
   ·exact k2 q hq
  ·rename_i h1;exact absurd h h1
theorem UF{ps:List Pm}(h:Pg.oV ps=0):∀p∈ps,W.ok p.b:=by
 induction ps with
 |nil=>intro p hp;simp at hp
 |cons q ps ih=>
  rw [Pg.oV]at h
  split at h
  ·rename_i h1
   intro p hp
   rcases List.mem_cons.1 hp with rfl|hp
   ·exact Ck.rV h1
   ·exact ih h p hp
  ·rename_i h1;exact absurd h h1
theorem Rj{fs:List Fn}:∀{N:Nat},N≤20000→(Pg.fns fs N).1=0→∀f∈fs,f.ps.length≤8∧(∀p∈f.ps,W.ok p.b)∧∃N,N≤20000∧(S.cnts f.body N 2).1=0:=by
 induction fs with
 |nil=>intro N _ _ f hf;simp at hf
 |cons g fs ih=>
  intro N hN h
  rw [Pg.fns]at h
  split at h
  ·rename_i h1
   have hg:(Pg.fn g N).2≤20000∧g.ps.length≤8∧(∀p∈g.ps,W.ok p.b)∧∃N,N≤20000∧(S.cnts g.body N 2).1=0:=by
    unfold Pg.fn at h1⊢
    split at h1
    ·exact absurd h1 (show¬(7:Int)=0 by decide)
    rename_i c1
    rw [if_neg c1]
    split at h1
    ·exact absurd h1 (show¬(9:Int)=0 by decide)
    rename_i c2
    rw [if_neg c2]
    split at h1
    ·exact absurd h1 (show¬(5:Int)=0 by decide)
    rename_i c3
    rw [if_neg c3]
    split at h1
    ·rename_i c;exact absurd h1 c
    rename_i c4
    rw [if_neg c4]
    split at h1
    ·exact absurd h1 (show¬(4:Int)=0 by decide)
    rename_i c5
    rw [if_neg c5]
    exact⟨S.bF _ _ _ (by omega) h1,by omega,UF (Classical.not_not.1 c4),N+1,by omega,h1⟩
   intro f hf
   rcases List.mem_cons.1 hf with rfl|hf
   ·exact hg.2
   ·exact ih hg.1 h f hf
  ·rename_i h1;exact absurd h h1
theorem jB{P0:Pg}(h:Pg.wrong P0=0):P0.fs.length≤100∧P0.gs.length≤20000∧(∀g∈P0.gs,W.ok g.b∧0≤g.size∧g.size≤8000∧∀x∈g.ini,X.gK x)∧∀f∈P0.fs,f.ps.length≤8∧(∀p∈f.ps,W.ok p.b)∧∃N,N≤20000∧(S.cnts f.body N 2).1=0:=by
 unfold Pg.wrong at h
 split at h
 ·exact absurd h (by decide)
 rename_i h1
 obtain⟨z,t⟩:=bg h
 rw [t]at h
 obtain⟨k1,k2⟩:=Q5 (Nat.zero_le _) z
 exact⟨by omega,by have:=k1.2;have:=k1.1;omega,fun g hg=>⟨Ck.rV (k2 g hg).1,(k2 g hg).2⟩,Rj k1.1 h⟩
structure tN(w wr:World)(P0:Pg)(v0 v1:Value)(bt tb gb fb m n:Nat):Prop where
 bel:Below w.heap.size w wr
 bp:ak wr w.heap.size 25 #[v0,v1]
 bf:ak wr (w.heap.size+1) 29 #[.int .i64 0, .int .i64 0]
 bt:ak wr bt 49 #[P tb]
 tb:ak wr tb 71 #[v0,v1, .map (some gb), .map (some fb)]
 gm:SMap FN (fun i:Nat=> .lit (.int .i64 (i:Int))) wr gb m (Ck.idx (fun g:Gl=>g.nm.data.toList) (P0.gs.take m))
 fm:SMap FN (fun i:Nat=> .lit (.int .i64 (i:Int))) wr fb n (Ck.idx (fun f:Fn=>f.nm.data.toList) (P0.fs.take n))
 ne:gb≠fb
 lo:w.heap.size≤gb∧w.heap.size≤fb
 pg:bM wr (·<w.heap.size) P0 v0 v1
section
variable{w wr w':World}{P0:Pg}{v0 v1:Value}{bt tb gb fb m n:Nat}
theorem tN.keep(h:tN w wr P0 v0 v1 bt tb gb fb m n)(hb:Below wr.heap.size wr w'):tN w w' P0 v0 v1 bt tb gb fb m n:=
 ⟨Ext.trans h.bel hb,h.bp.keep hb,h.bf.keep hb,h.bt.keep hb,h.tb.keep hb,h.gm.keep hb,h.fm.keep hb,h.ne,h.lo,h.pg.keep hb⟩
theorem tN.aaW(h:tN w wr P0 v0 v1 bt tb gb fb m n){g:Gl}(hg:P0.gs[m]?=some g)(hn:Ck.idx (fun g:Gl=>g.nm.data.toList) (P0.gs.take m) g.nm.data.toList=none)(hgr:wr.grownBy w' (some gb))
 (hm:SMap FN (fun i:Nat=> .lit (.int .i64 (i:Int))) w' gb (m+1) (fun l=>if l=g.nm.data.toList then some m else Ck.idx (fun g:Gl=>g.nm.data.toList) (P0.gs.take m) l)):tN w w' P0 v0 v1 bt tb gb fb (m+1) n:=by
 obtain⟨hml,hge⟩:=List.getElem?_eq_some_iff.1 hg
 have far:∀(k:Nat)(t:TypeId)(cs:Array Value),ak wr k t cs→ak w' k t cs:=fun k t cs hb=>hb.grown hgr (fun e2=>by injection e2 with e2;exact aV hb h.gm e2.symm)
 refine⟨⟨hgr.os.trans h.bel.os,hgr.tape.trans h.bel.tape,hgr.output.trans h.bel.output,Nat.le_trans h.bel.size hgr.size,fun k hk=>(hgr.block k (Nat.lt_of_lt_of_le hk h.bel.size) (fun e2=>by injection e2 with e2;have:=h.lo.1;omega)).trans (h.bel.block k hk)⟩,
  far _ _ _ h.bp,far _ _ _ h.bf,far _ _ _ h.bt,far _ _ _ h.tb,hm.congr fun l=>?_,h.fm.same (hgr.block fb h.fm.lt (fun e2=>by injection e2 with e2;exact h.ne e2.symm)),h.ne,h.lo,h.pg.move fun k hk hkl=>⟨hk,hgr.block k hkl (fun e2=>by injection e2 with e2;have:=h.lo.1;have hk':k<w.heap.size:=hk;omega)⟩⟩
 rw [List.take_succ_eq_append_getElem hml,hge,Ck.Ag]
 by_cases e:l=g.nm.data.toList
 ·subst e
  rw [if_pos rfl,hn,if_pos rfl,List.length_take]
  show some m=some (min m P0.gs.length)
  congr 1;omega
 ·rw [if_neg e,if_neg (fun e2=>e e2.symm)]
  cases Ck.idx (fun g:Gl=>g.nm.data.toList) (P0.gs.take m) l<;>rfl
theorem tN.aap(h:tN w wr P0 v0 v1 bt tb gb fb m n){g:Fn}(hg:P0.fs[n]?=some g)(hn:Ck.idx (fun g:Fn=>g.nm.data.toList) (P0.fs.take n) g.nm.data.toList=none)(hgr:wr.grownBy w' (some fb))
 (hm:SMap FN (fun i:Nat=> .lit (.int .i64 (i:Int))) w' fb (n+1) (fun l=>if l=g.nm.data.toList then some n else Ck.idx (fun g:Fn=>g.nm.data.toList) (P0.fs.take n) l)):tN w w' P0 v0 v1 bt tb gb fb m (n+1):=by
 obtain⟨hml,hge⟩:=List.getElem?_eq_some_iff.1 hg
 have far:∀(k:Nat)(t:TypeId)(cs:Array Value),ak wr k t cs→ak w' k t cs:=fun k t cs hb=>hb.grown hgr (fun e2=>by injection e2 with e2;exact aV hb h.fm e2.symm)
 refine⟨⟨hgr.os.trans h.bel.os,hgr.tape.trans h.bel.tape,hgr.output.trans h.bel.output,Nat.le_trans h.bel.size hgr.size,fun k hk=>(hgr.block k (Nat.lt_of_lt_of_le hk h.bel.size) (fun e2=>by injection e2 with e2;have:=h.lo.2;omega)).trans (h.bel.block k hk)⟩,
  far _ _ _ h.bp,far _ _ _ h.bf,far _ _ _ h.bt,far _ _ _ h.tb,h.gm.same (hgr.block gb h.gm.lt (fun e2=>by injection e2 with e2;exact h.ne e2)),hm.congr fun l=>?_,h.ne,h.lo,h.pg.move fun k hk hkl=>⟨hk,hgr.block k hkl (fun e2=>by injection e2 with e2;have:=h.lo.2;have hk':k<w.heap.size:=hk;omega)⟩⟩
 rw [List.take_succ_eq_append_getElem hml,hge,Ck.Ag]
 by_cases e:l=g.nm.data.toList
 ·subst e
  rw [if_pos rfl,hn,if_pos rfl,List.length_take]
  show some n=some (min n P0.fs.length)
  congr 1;omega
 ·rw [if_neg e,if_neg (fun e2=>e e2.symm)]
  cases Ck.idx (fun g:Fn=>g.nm.data.toList) (P0.fs.take n) l<;>rfl
theorem tN.table(h:tN w wr P0 v0 v1 bt tb gb fb P0.gs.length P0.fs.length):Tb wr wr.heap.size tb P0 v0 v1 gb fb:=by
 have hg:=h.gm
 have hf:=h.fm
 rw [List.take_length]at hg hf
 exact⟨h.tb,⟨h.tb.lt,hg.lt,hf.lt⟩,Nat.le_refl _,h.pg.move fun k hk hkl=>⟨hkl,rfl⟩,hg,hf⟩
end
def C9(w:World)(P0:Pg)(v0 v1:Value)(r:Int×Nat)(e:Ending)(w':World):Prop:=∃tv,e= .returned (.tuple #[tv, .agg #[.int .i64 r.1, .int .i64 (r.2:Int)]])∧Below w.heap.size w w'∧(r.1=0→∃tb gb fb,tv=P tb∧Tb w' w'.heap.size tb P0 v0 v1 gb fb)
end
section
open Go.RowKit Go.Maps
section
variable{w w1 w2:World}{P0:Pg}{v0:Value}{fg fo n1 c1 bt tb gb fb m g N:Nat}{f:Fn}{e1:Ck.Env}
theorem tN.kW(h:tN w w1 P0 v0 (.slice (some ⟨fg,fo,none⟩) n1 c1) bt tb gb fb P0.gs.length P0.fs.length)(hf:P0.fs[m]?=some f):∃pa pc ba bc,fg<w.heap.size∧f.ps.length≤pc∧
 w1.cell? ⟨fg,fo+m*5,none⟩=some (.string f.nm)∧w1.cell? ⟨fg,fo+m*5+1,none⟩=some (.int .i64 f.b)∧w1.cell? ⟨fg,fo+m*5+2,none⟩=some (.bool f.s)∧w1.cell? ⟨fg,fo+m*5+3,none⟩=some (.slice pa f.ps.length pc)∧w1.cell? ⟨fg,fo+m*5+4,none⟩=some (.slice ba f.body.length bc)∧
 (∀j p,f.ps[j]?=some p→∃pg po,pa=some ⟨pg,po,none⟩∧w1.cell? ⟨pg,po+j*3,none⟩=some (.int .i64 p.b)∧w1.cell? ⟨pg,po+j*3+1,none⟩=some (.bool p.s)∧w1.cell? ⟨pg,po+j*3+2,none⟩=some (.string p.nm))∧
 FK w1 w.heap.size f.body ba bc:=by
 obtain⟨a2,c2,e,_,_,h2⟩:=h.pg.2.parts
 injection e with e _ _
 subst e
 obtain⟨q,off,cs,hq,ea,⟨vp,vb,rfl,JV,hrb⟩,hc⟩:=h2 m f hf
 injection ea with ea
 injection ea with e1 e2
 subst e1 e2
 obtain⟨pa,pc,rfl,hp1,_,hp3⟩:=JV.pm
 obtain⟨ba,bc,rfl,hb⟩:=aQ.rows hrb
 exact⟨pa,pc,ba,bc,hq,hp1,hc 0 _ rfl,hc 1 _ rfl,hc 2 _ rfl,hc 3 _ rfl,hc 4 _ rfl,hp3,hb⟩
theorem tN.stats(h:tN w w1 P0 v0 (.slice (some ⟨fg,fo,none⟩) n1 c1) bt tb gb fb P0.gs.length P0.fs.length)(hf:P0.fs[m]?=some f)(hwf:Fn.Wf f)(hps:∀f∈P0.fs,f.ps.length≤8)(hok:∀p∈f.ps,W.ok p.b)(hN:N≤20000)(hc:(S.cnts f.body N 2).1=0)
 (hb:Below w1.heap.size w1 w2)(he:Ck.enter f.ps Ck.Env.new=some e1)(hs:kF w2 w1.heap.size g tb fg (fo+m*5) e1){ba:Option Addr}{bc:Nat}(hbc:w2.cell? ⟨fg,fo+m*5+4,none⟩=some (.slice ba f.body.length bc)):
 Calls Try.prog 31 #[P g, .slice ba f.body.length bc] w2 (zN w1.heap.size g tb fg (fo+m*5) w2 (Ck.shut (Ck.stats P0 f.b f.body e1.open))):=by
 obtain⟨pa,pc,ba',bc',hq,hp1,k0,k1,k2,k3,k4,hp3,hbb⟩:=h.kW hf
 have hlt:w.heap.size≤w1.heap.size:=h.bel.size
 have hfg:fg<w1.heap.size:=by omega
 rw [Below.cell (p:=⟨fg,fo+m*5+4,none⟩) hb hfg,k4]at hbc
 injection hbc with hbc
 injection hbc with ea _ ec
 subst ea ec
 obtain⟨kk,ks,kf⟩:=Ck.uJ f.ps _ _ he hok (fun t ht=>by simp [Ck.Env.new]at ht) (by decide)
 have kl:e1.lv.length=1:=kk.1
 have ko:e1.loops=0:=kk.2.1
 have h8:=hps f (List.mem_of_getElem? hf)
 have ks:e1.slots.length=f.ps.length:=by rw [ks];exact Nat.zero_add _
 refine uK w2 w1.heap.size g tb fg (fo+m*5) gb fb P0 _ _ f.b f.body _ _ (fun y hy=>KH _ _ _ _ _ _ _ _ _ _ _ y (hwf.body y hy)) e1 N 2 ⟨hs,h.table.below hb,hps,⟨hfg,?_⟩,hN,by decide,by decide,by omega,by omega,by omega,by omega⟩ (by omega) ?_ hc
 ·rw [Below.cell (p:=⟨fg,fo+m*5+1,none⟩) hb hfg];exact k1
 ·have aao:FK w1 w1.heap.size f.body ba' bc':=⟨hbb.1,hbb.2.1,fun i y hy=>by
   obtain⟨gk,ok,e,hx,cs,hsi,hl⟩:=hbb.2.2 i y hy
   exact⟨gk,ok,e,Nat.lt_of_lt_of_le hx hlt,cs,fV.move (fun q hq _=>⟨Nat.lt_of_lt_of_le hq hlt,rfl⟩) y cs hsi,hl⟩⟩
  exact aao.below hb
end
theorem Ck.vJ{P0:Pg}{f:Fn}{e1:Ck.Env}{N:Nat}(hps:f.ps.length≤8)(hok:∀p∈f.ps,W.ok p.b)(hN:N≤20000)(hc:(S.cnts f.body N 2).1=0)(he:Ck.enter f.ps Ck.Env.new=some e1):
 (∀t∈(Ck.stats P0 f.b f.body e1.open).2.slots,W.ok t.1)∧(Ck.stats P0 f.b f.body e1.open).2.slots.length≤100000:=by
 obtain⟨kk,ks,kf⟩:=Ck.uJ f.ps _ _ he hok (fun t ht=>by simp [Ck.Env.new]at ht) (by decide)
 have ks:e1.slots.length=f.ps.length:=by rw [ks];exact Nat.zero_add _
 refine⟨Ck.Ep P0 f.b f.body e1.open N 2 hc kf,?_⟩
 have h1:(Ck.stats P0 f.b f.body e1.open).2.slots.length≤(S.cnts f.body N 2).2+8:=Ck.rF P0 f.b f.body e1.open N 2 hc (by show 1≤(e1.lv++[[]]).length;simp) (by show e1.slots.length≤_;omega)
 have h2:(S.cnts f.body N 2).2≤20000:=S.bF _ _ _ hN hc
 omega
theorem Ck.xK{P0:Pg}{f:Fn}(he:Ck.enter f.ps Ck.Env.new=none):Ck.func P0 f=7:=by unfold Ck.func;rw [he]
theorem Ck.Bj{P0:Pg}{f:Fn}{e1:Ck.Env}(he:Ck.enter f.ps Ck.Env.new=some e1)(h:(Ck.stats P0 f.b f.body e1.open).1≠0):Ck.func P0 f=(Ck.stats P0 f.b f.body e1.open).1:=by
 unfold Ck.func;rw [he];exact if_pos h
theorem Ck.xX{P0:Pg}{f:Fn}{e1:Ck.Env}(he:Ck.enter f.ps Ck.Env.new=some e1)(h:(Ck.stats P0 f.b f.body e1.open).1=0)(h2:200<Ck.words (Ck.stats P0 f.b f.body e1.open).2.slots):Ck.func P0 f=4:=by
 unfold Ck.func;rw [he];exact(if_neg (fun k=>k h)).trans (if_pos h2)
theorem Ck.xY{P0:Pg}{f:Fn}{e1:Ck.Env}(he:Ck.enter f.ps Ck.Env.new=some e1)(h:(Ck.stats P0 f.b f.body e1.open).1=0)(h2:¬200<Ck.words (Ck.stats P0 f.b f.body e1.open).2.slots):Ck.func P0 f=0:=by
 unfold Ck.func;rw [he];exact(if_neg (fun k=>k h)).trans (if_neg h2)
theorem Ck.MJ{P0:Pg}{i k:Nat}{f:Fn}(h:P0.fs[k]?=some f):Ck.funcs P0 i (P0.fs.drop k)=if Ck.func P0 f=0 then Ck.funcs P0 (i+1) (P0.fs.drop (k+1))else(Ck.func P0 f,i):=by
 obtain⟨h1,h2⟩:=List.getElem?_eq_some_iff.1 h
 rw [List.drop_eq_getElem_cons h1,h2,Ck.funcs]
theorem Ck.nD{P0:Pg}{n n2:Nat}{tk:List Ck.Nm}(hz:Pg.wrong P0=0)(hg:Ck.globs 0 [Ck.put,Ck.get] 0 P0.gs=((0,n),tk))(hn:Ck.names P0.gs.length tk P0.fs=(0,n2))(h:(Ck.funcs P0 P0.gs.length P0.fs).1≠0):Ck.check P0=Ck.funcs P0 P0.gs.length P0.fs:=by
 unfold Ck.check
 rw [if_neg (fun hh=>hh hz),hg,if_neg (fun hh=>hh rfl)]
 show(if(Ck.names P0.gs.length tk P0.fs).1≠0 then _ else _)=_
 rw [hn,if_neg (fun hh=>hh rfl),if_pos h]
theorem Ck.vM{P0:Pg}{n n2 n3:Nat}{tk:List Ck.Nm}(hz:Pg.wrong P0=0)(hg:Ck.globs 0 [Ck.put,Ck.get] 0 P0.gs=((0,n),tk))(hn:Ck.names P0.gs.length tk P0.fs=(0,n2))(h:Ck.funcs P0 P0.gs.length P0.fs=(0,n3)):Ck.check P0=if Ck.jw P0=false then(6,P0.gs.length+P0.fs.length)else(0,0):=by
 unfold Ck.check
 rw [if_neg (fun hh=>hh hz),hg,if_neg (fun hh=>hh rfl)]
 show(if(Ck.names P0.gs.length tk P0.fs).1≠0 then _ else _)=_
 rw [hn,if_neg (fun hh=>hh rfl),h,if_neg (fun hh=>hh rfl)]
end
end Go.Proofs.Ythdckndjggljpaa
