/- Proofs of this claim, part 47. No condition. -/
import Derived.Test.YthdckndjggljpaaS46
namespace Go.Proofs.Ythdckndjggljpaa
set_option linter.unusedVariables false
set_option linter.unusedSimpArgs false
set_option maxRecDepth 100000
set_option maxHeartbeats 64000000
section
open Go.RowKit Go.Maps
theorem Du(w:World)(P0:Pg)(v0 v1:Value)(hp:bM w (fun _=>True) P0 v0 v1)(hw:Pg.Wf P0):Calls Try.prog 14 #[.agg #[v0,v1]] w (C9 w P0 v0 v1 (Ck.check P0)):=by
 by_cases hz:Pg.wrong P0=0
 ·exact yK w P0 v0 v1 hp hw hz
 ·exact Aa w P0 v0 v1 hp hw hz
theorem dS(w:World)(P0:Pg)(v0 v1:Value)(hp:bM w (fun _=>True) P0 v0 v1)(hw:Pg.Wf P0):Calls Try.prog 6 #[.agg #[v0,v1]] w fun e w'=>e= .returned (.agg #[.int .i64 (Ck.check P0).1, .int .i64 ((Ck.check P0).2:Int)])∧Below w.heap.size w w':=by
 obtain⟨a0,c0,e0,_⟩:=hp.1.parts
 obtain⟨a1,c1,e1,_⟩:=hp.2.parts
 subst e0 e1
 obtain⟨R,hR⟩:∃R,R=Ck.check P0:=⟨_,rfl⟩
 have HP:Hid (∀w1,Below w.heap.size w w1→Calls Try.prog 14 #[.agg #[.slice a0 P0.gs.length c0, .slice a1 P0.fs.length c1]] w1 (C9 w1 P0 (.slice a0 P0.gs.length c0) (.slice a1 P0.fs.length c1) R)):=fun w1 hb=>by rw [hR];exact Du w1 P0 _ _ (hp.keep hb) hw
 rw [←hR]
 have HB0:Hid (ak ((w.alloc (.cells #[.slice a0 P0.gs.length c0, .slice a1 P0.fs.length c1] 25)).alloc (.cells #[.int .i64 0, .int .i64 0] 29)) (w.heap.size+1) 29 #[.int .i64 0, .int .i64 0]):=ak.newAt _ _ (by simp)
 clear hR hp hw
 obtain⟨er,ap⟩:=R
 go_enter Try.func6,Try.ntmps6
 go_upto_region 2 with(first|(go_at_call 14;refine(HP.out _ (Ext.alloc (Ext.alloc (Below.refl _ _) _) _)).mono ?_;rintro e w2⟨tv,rfl,hb2,_⟩;have HB2:=Lib.hid (Ext.trans (Ext.alloc (Ext.alloc (Below.refl _ _) _) _) hb2:Below w.heap.size w w2);have HF2:=Lib.hid (HB0.out.keep hb2);clear hb2))
 generalize hw3:World.alloc _ _=w3
 have HW3:Hid (ak w3 w2.heap.size 29 #[.int .i64 er, .int .i64 (ap:Int)]∧ak w3 (w.heap.size+1) 29 #[.int .i64 0, .int .i64 0]∧Below w.heap.size w w3):=by
  subst hw3;exact⟨ak.new _ _ _,HF2.out.alloc _,Ext.alloc HB2.out _⟩
 have x0:=HW3.out.1.cell 0;have x1:=HW3.out.1.cell 1
 have xl:=HW3.out.1.lt
 have f0:=HW3.out.2.1.cell 0;have f1:=HW3.out.2.1.cell 1;have f2:=HW3.out.2.1.frozen 0;have f3:=HW3.out.2.1.frozen 1;have f4:=HW3.out.2.1.lt
 clear hw3
 go_wp2
 generalize hW:World.setCell _ _ _=wz
 have HW:Hid (ak wz (w.heap.size+1) 29 #[.int .i64 er, .int .i64 (ap:Int)]∧Below w.heap.size w wz):=by
  subst hW
  exact⟨aW HW3.out.2.1 _ _,Ext.setCell (Ext.setCell HW3.out.2.2 (Nat.le_succ _) _) (Nat.le_succ _) _⟩
 clear hW f0 f1 f2 f3
 have q0:=HW.out.1.cell 0;have q1:=HW.out.1.cell 1
 have ql:=HW.out.1.lt
 exact bodyPost_ret (v:= .agg #[.int .i64 er, .int .i64 (ap:Int)]) (by simp [results,Try.results6,go_sem,q0,q1,ql]) rfl ⟨rfl,HW.out.2⟩
end
section
open Go.RowKit Go.Maps
theorem xq:Ck.check ⟨[],[]⟩=(6,0):=by
 have hz:Pg.wrong ⟨[],[]⟩=0:=by decide
 exact(Ck.vM (n:=0) (n2:=0) (n3:=0) (tk:=[Ck.put,Ck.get]) hz (by show Ck.globs 0 _ 0 []=_;rw [Ck.globs]) rfl rfl).trans (if_pos rfl)
theorem jE(w:World):Calls Try.prog 5 #[] w fun e w'=>e= .returned (.bool true)∧Below w.heap.size w w':=by
 have HC:Hid (∀w1:World,Calls Try.prog 6 #[.agg #[.slice none 0 0, .slice none 0 0]] w1 fun e w'=>e= .returned (.agg #[.int .i64 6, .int .i64 0])∧Below w1.heap.size w1 w'):=fun w1=>by
  have h0:=dS w1 ⟨[],[]⟩ (.slice none 0 0) (.slice none 0 0) ⟨Row.nil _ _ _ _,Row.nil _ _ _ _⟩ ⟨fun y hy=>by simp at hy,fun y hy=>by simp at hy⟩
  rw [xq]at h0
  exact h0
 have hfd:∀(x y:Int)(w:World),(Instr.field 29 (.agg #[.int .i64 x, .int .i64 y]) 0).run Try.prog w= .ok (.int .i64 x) w:=fun x y w=>by simp [Instr.field,asAgg,go_sem]
 go_enter Try.func5,Try.ntmps5
 go_wp2_with(first|(go_at_call 6;refine(HC.out _).mono ?_;rintro e w2⟨rfl,hb2⟩;have HB2:=Lib.hid hb2;clear hb2))
 go_ret
 exact⟨rfl,HB2.out⟩
end
section
open Go.RowKit
namespace Ck
structure Wider(P Q:Pg):Prop where
 gs:Q.gs=P.gs
 call:∀n r,called P n=some r→called Q n=some r
section
variable{P Q:Pg}
theorem wE(h:Wider P Q)(e:Env)(n:Nm):find Q e n=find P e n:=by unfold find;rw [h.gs]
theorem Dx(h:Wider P Q)(e:Env)(k b:Int)(s:Bool)(n:Nm)(ts:List Ty)(h0:(jv P e k b s n ts).e=0):jv Q e k b s n ts=jv P e k b s n ts:=by
 unfold jv at*
 by_cases h4:k=4
 ·rw [if_pos h4]at h0⊢
  rw [if_pos h4]
  cases hc:called P n with
  |none=>rw [hc]at h0;exact absurd h0 (show¬(7:Int)=0 by decide)
  |some r=>rw [h.call n r hc]
 ·rw [if_neg h4,if_neg h4,wE h]
theorem xI{ts:List Ty}(h:first ts=0):∀t∈ts,t.e=0:=by
 induction ts with
 |nil=>intro t ht;simp at ht
 |cons t ts ih=>
  unfold first at h
  split at h
  ·rename_i h1
   intro u hu
   rcases List.mem_cons.1 hu with rfl|hu
   ·exact h1
   ·exact ih h u hu
  ·rename_i h1;exact absurd h h1
theorem uP{e:Env}{k b:Int}{s:Bool}{n:Nm}{ts:List Ty}(h0:(jv P e k b s n ts).e=0):first ts=0:=by
 unfold jv at h0
 by_cases hf:first ts=0
 ·exact hf
 ·split at h0
  ·split at h0
   ·exact absurd h0 (show¬(7:Int)=0 by decide)
   ·split at h0
    ·exact absurd h0 (show¬(5:Int)=0 by decide)
    ·exact h0
  ·exact h0
theorem val_ok{t:Ty}(h:t.val.e=0):t.e=0∧t.val=t:=by
 unfold Ty.val at h⊢
 split at h
 ·exact absurd h (show¬(9:Int)=0 by decide)
 ·rename_i h1;rw [if_neg h1];exact⟨h,rfl⟩
theorem Ak(h:Wider P Q)(e:Env)(x:X):(ty P e x).e=0→ty Q e x=ty P e x:=by
 induction x using X.up with
 |_ x ih=>
  intro h0
  obtain⟨k,n,b,s,nm,ks⟩:=x
  rw [ty]at h0
  have hf:=xI (uP h0)
  have hk:tys Q e ks=tys P e ks:=by
   have:∀l:List X,(∀y∈l,(ty P e y).e=0→ty Q e y=ty P e y)→(∀t∈tys P e l,t.e=0)→tys Q e l=tys P e l:=by
    intro l
    induction l with
    |nil=>intro _ _;rw [tys,tys]
    |cons y l ih2=>
     intro hy ht
     rw [tys]at ht
     rw [tys,tys]
     have h1:=ht _ (List.mem_cons_self ..)
     rw [hy y (List.mem_cons_self ..) (val_ok h1).1,ih2 (fun z hz=>hy z (List.mem_cons_of_mem _ hz)) (fun t h=>ht t (List.mem_cons_of_mem _ h))]
   exact this ks ih hf
  rw [ty,ty,hk]
  exact Dx h e k b s nm.data.toList _ h0
theorem lZ(h:Wider P Q)(x:X)(e:Env)(h0:(vals P x e).1=0):vals Q x e=vals P x e:=by
 unfold vals at*
 rw [Ak h e x (val_ok h0).1]
theorem oz(h:Wider P Q)(has:Bool)(x:X)(e:Env)(h0:(may P has x e).1=0):may Q has x e=may P has x e:=by
 unfold may at*
 split at h0
 ·rename_i h1;rw [if_pos h1,if_pos h1];exact lZ h x e h0
 ·rename_i h1;rw [if_neg h1,if_neg h1]
theorem Yo{r:Int×Env}{f:Env→Int×Env}(h:(on r f).1=0):r.1=0∧on r f=f r.2:=by
 unfold on at*
 split at h
 ·rename_i h1;exact⟨h1,if_pos h1⟩
 ·rename_i h1;exact absurd h h1
theorem gW{r r':Int×Env}{f g:Env→Int×Env}(h0:(on r f).1=0)(h1:r.1=0→r'=r)(h2:∀e,(f e).1=0→g e=f e):on r' g=on r f:=by
 obtain⟨h3,h4⟩:=Yo h0
 rw [h1 h3,h4]
 unfold on
 rw [if_pos h3]
 exact h2 _ (by rw [h4]at h0;exact h0)
theorem E9(h:Wider P Q)(rb:Int)(x:S):∀e,(stat P rb x e).1=0→stat Q rb x e=stat P rb x e:=by
 have all:∀l:List S,(∀y∈l,∀e,(stat P rb y e).1=0→stat Q rb y e=stat P rb y e)→∀e,(stats P rb l e).1=0→stats Q rb l e=stats P rb l e:=by
  intro l
  induction l with
  |nil=>intro _ e _;rw [stats,stats]
  |cons y l ih=>
   intro hy e h0
   rw [stats]at h0
   rw [stats,stats]
   exact gW h0 (hy y (List.mem_cons_self ..) e) (fun e=>ih (fun z hz=>hy z (List.mem_cons_of_mem _ hz)) e)
 have shl:∀l:List S,(∀y∈l,∀e,(stat P rb y e).1=0→stat Q rb y e=stat P rb y e)→∀e,(shut (stats P rb l e)).1=0→shut (stats Q rb l e)=shut (stats P rb l e):=fun l hl e h0=>by rw [all l hl e h0]
 have lel:∀l:List S,(∀y∈l,∀e,(stat P rb y e).1=0→stat Q rb y e=stat P rb y e)→∀e,(less (shut (stats P rb l e))).1=0→less (shut (stats Q rb l e))=less (shut (stats P rb l e)):=fun l hl e h0=>by rw [all l hl e h0]
 induction x using S.up with
 |_ x ih=>
  intro e h0
  obtain⟨k,b,s,nm,has,x,i,l0,l1,l2,l3⟩:=x
  have i0:∀y∈l0,_:=fun y hy=>ih y (.inl hy)
  have i1:∀y∈l1,_:=fun y hy=>ih y (.inr (.inl hy))
  have i2:∀y∈l2,_:=fun y hy=>ih y (.inr (.inr (.inl hy)))
  have i3:∀y∈l3,_:=fun y hy=>ih y (.inr (.inr (.inr hy)))
  rw [stat]at h0
  rw [stat,stat]
  by_cases c2:k=2
  ·rw [if_pos c2]at h0⊢
   rw [if_pos c2]
   exact gW h0 (oz h has x e) (fun e _=>rfl)
  rw [if_neg c2]at h0⊢
  rw [if_neg c2]
  by_cases c3:k=3
  ·rw [if_pos c3]at h0⊢
   rw [if_pos c3]
   refine gW h0 (oz h has i e) (fun e h0=>?_)
   rw [wE h]
   cases hf:find P e nm.data.toList with
   |none=>rfl
   |some p=>
    rw [hf]at h0
    show(if _ then _ else vals Q x e)=if _ then _ else vals P x e
    have h0:(if((decide (0<p.size))!=has)=true then(9,e)else vals P x e).1=0:=h0
    split at h0
    ·exact absurd h0 (show¬(9:Int)=0 by decide)
    ·rename_i h1;rw [if_neg h1,if_neg h1];exact lZ h x e h0
  rw [if_neg c3]at h0⊢
  rw [if_neg c3]
  by_cases c4:k=4
  ·rw [if_pos c4]at h0⊢
   rw [if_pos c4,Ak h e x h0]
  rw [if_neg c4]at h0⊢
  rw [if_neg c4]
  by_cases c8:k=8
  ·rw [if_pos c8]at h0⊢
   rw [if_pos c8]
   split at h0
   ·exact absurd h0 (show¬(9:Int)=0 by decide)
   ·rename_i h1;rw [if_neg h1,if_neg h1];exact oz h has x e h0
  rw [if_neg c8]at h0⊢
  rw [if_neg c8]
  by_cases c9:k=9∨k=10
  ·rw [if_pos c9];rw [if_pos c9]
  rw [if_neg c9]at h0⊢
  rw [if_neg c9]
  by_cases c5:k=5
  ·rw [if_pos c5]at h0⊢
   rw [if_pos c5]
   exact gW h0 (lZ h x e) (fun e h0=>gW h0 (shl l2 i2 _) (fun e=>shl l3 i3 _))
  rw [if_neg c5]at h0⊢
  rw [if_neg c5]
  by_cases c6:k=6
  ·rw [if_pos c6]at h0⊢
   rw [if_pos c6]
   exact gW h0 (lZ h x e) (fun e=>lel l2 i2 _)
  rw [if_neg c6]at h0⊢
  rw [if_neg c6]
  by_cases c7:k=7
  ·rw [if_pos c7]at h0⊢
   rw [if_pos c7]
   exact gW h0 (shl l0 i0 _) (fun e h0=>gW h0 (oz h has x e) (fun e h0=>gW h0 (shl l1 i1 _) (fun e=>lel l2 i2 _)))
  rw [if_neg c7]at h0⊢
  rw [if_neg c7]
  by_cases c11:k=11
  ·rw [if_pos c11]at h0⊢
   rw [if_pos c11]
   exact shl l2 i2 _ h0
  rw [if_neg c11];rw [if_neg c11]
theorem zY(h:Wider P Q)(rb:Int)(l:List S):∀e,(stats P rb l e).1=0→stats Q rb l e=stats P rb l e:=by
 induction l with
 |nil=>intro e _;rw [stats,stats]
 |cons y l ih=>
  intro e h0
  rw [stats]at h0
  rw [stats,stats]
  exact gW h0 (E9 h rb y e) (fun e=>ih e)
theorem Dn(h:Wider P Q)(f:Fn)(h0:func P f=0):func Q f=0:=by
 unfold func at*
 cases he:enter f.ps Env.new with
 |none=>rw [he]at h0;exact absurd h0 (show¬(7:Int)=0 by decide)
 |some e=>
  rw [he]at h0
  have h0:(if(stats P f.b f.body e.open).1≠0 then(stats P f.b f.body e.open).1 else if 200<words (stats P f.b f.body e.open).2.slots then 4 else 0)=0:=h0
  show(if(stats Q f.b f.body e.open).1≠0 then(stats Q f.b f.body e.open).1 else if 200<words (stats Q f.b f.body e.open).2.slots then 4 else 0)=0
  have h1:(stats P f.b f.body e.open).1=0:=Classical.byContradiction fun hn=>by rw [if_pos hn]at h0;exact hn h0
  rw [zY h f.b f.body e.open h1]
  exact h0
theorem qV{P:Pg}{fs:List Fn}:∀{i:Nat},(funcs P i fs).1=0↔∀f∈fs,func P f=0:=by
 induction fs with
 |nil=>intro i;rw [funcs];exact⟨fun _ f hf=>by simp at hf,fun _=>rfl⟩
 |cons f fs ih=>
  intro i
  rw [funcs]
  constructor
  ·intro h
   split at h
   ·rename_i h1
    intro g hg
    rcases List.mem_cons.1 hg with rfl|hg
    ·exact h1
    ·exact ih.1 h g hg
   ·rename_i h1;exact absurd h h1
  ·intro h
   rw [if_pos (h f (List.mem_cons_self ..))]
   exact ih.2 (fun g hg=>h g (List.mem_cons_of_mem _ hg))
theorem Iw{fs:List Fn}:∀{i:Nat}{tk:List Nm}{f:Fn},(names i tk fs).1=0→f.nm.data.toList∉tk→(∀g∈fs,g.nm.data.toList≠f.nm.data.toList)→(names i tk (fs++[f])).1=0:=by
 induction fs with
 |nil=>
  intro i tk f _ h1 _
  rw [List.nil_append,names,if_neg (by simpa using h1),names]
 |cons g fs ih=>
  intro i tk f h h1 h2
  rw [names]at h
  rw [List.cons_append,names]
  split at h
  ·exact absurd h (show¬(7:Int)=0 by decide)
  ·rename_i hc
   rw [if_neg hc]
   refine ih h (fun hm=>?_) (fun q hq=>h2 q (List.mem_cons_of_mem _ hq))
   rcases List.mem_append.1 hm with hm|hm
   ·exact h1 hm
   ·rw [List.mem_singleton]at hm;exact h2 g (List.mem_cons_self ..) hm.symm
theorem KJ{gs:List Gl}:∀{i:Nat}{tk:List Nm}{all:Int},(globs i tk all gs).1.1=0→(globs i tk all gs).2=tk++gs.map (fun g=>g.nm.data.toList):=by
 induction gs with
 |nil=>intro i tk all _;rw [globs];simp
 |cons g gs ih=>
  intro i tk all h
  rw [globs]at h⊢
  by_cases h1:tk.contains g.nm.data.toList=true
  ·rw [if_pos h1]at h;exact absurd h (show¬(7:Int)=0 by decide)
  rw [if_neg h1]at h⊢
  by_cases h2:8000<all+(if g.size<1 then 1 else g.size)*FM g.b
  ·rw [if_pos h2]at h;exact absurd h (show¬(4:Int)=0 by decide)
  rw [if_neg h2]at h⊢
  by_cases h3:inits g.ini≠0
  ·rw [if_pos h3]at h;exact absurd h h3
  rw [if_neg h3]at h⊢
  rw [ih h]
  simp
end
theorem dS{P:Pg}:(check P).1=0↔Pg.wrong P=0∧(globs 0 [put,get] 0 P.gs).1.1=0∧(names P.gs.length (globs 0 [put,get] 0 P.gs).2 P.fs).1=0∧(funcs P P.gs.length P.fs).1=0∧jw P=true:=by
 unfold check
 constructor
 ·intro h
  split at h
  ·rename_i h1;exact absurd h h1
  rename_i h1
  split at h
  ·rename_i h2;exact absurd h h2
  rename_i h2
  split at h
  ·rename_i h3;exact absurd h h3
  rename_i h3
  split at h
  ·rename_i h4;exact absurd h h4
  rename_i h4
  split at h
  ·exact absurd h (show¬(6:Int)=0 by decide)
  rename_i h5
  exact⟨Classical.not_not.1 h1,Classical.not_not.1 h2,Classical.not_not.1 h3,Classical.not_not.1 h4,by simpa using h5⟩
 ·rintro⟨h1,h2,h3,h4,h5⟩
  rw [if_neg (by rw [h1];exact fun h=>h rfl),if_neg (by rw [h2];exact fun h=>h rfl),if_neg (by rw [h3];exact fun h=>h rfl),if_neg (by rw [h4];exact fun h=>h rfl),if_neg (by rw [h5];decide)]
theorem NR(fs:List Fn)(f:Fn):∀N,(Pg.fns fs N).1=0→Pg.fns (fs++[f]) N=Pg.fn f (Pg.fns fs N).2:=by
 induction fs with
 |nil=>
  intro N _
  rw [List.nil_append,Pg.fns,Pg.fns,Pg.fns]
  split
  ·rename_i h;rw [Prod.ext_iff];exact⟨h.symm,rfl⟩
  ·rfl
 |cons g fs ih=>
  intro N h
  rw [Pg.fns]at h
  rw [List.cons_append,Pg.fns,Pg.fns]
  split at h
  ·rename_i h1;rw [if_pos h1,if_pos h1];exact ih _ h
  ·rename_i h1;exact absurd h h1
theorem unused(P:Pg)(nm:ByteArray)(h:(check P).1=0)(hn:Tk.oC nm.data.toList=true)(hp:nm.data.toList≠put)(hg:nm.data.toList≠get)(hl:P.fs.length<100)(h1:∀g∈P.gs,g.nm.data.toList≠nm.data.toList)(h2:∀f∈P.fs,f.nm.data.toList≠nm.data.toList):
 (check ⟨P.gs,P.fs++[⟨nm,0,false,[],[]⟩]⟩).1=0∨((check ⟨P.gs,P.fs++[⟨nm,0,false,[],[]⟩]⟩).1=4∧Pg.wrong ⟨P.gs,P.fs++[⟨nm,0,false,[],[]⟩]⟩=4):=by
 obtain⟨a1,a2,a3,a4,a5⟩:=dS.1 h
 obtain⟨Q,hQ⟩:∃Q:Pg,Q=⟨P.gs,P.fs++[⟨nm,0,false,[],[]⟩]⟩:=⟨_,rfl⟩
 rw [←hQ]
 have hw:Pg.wrong Q=0∨Pg.wrong Q=4:=by
  rw [hQ]
  unfold Pg.wrong at*
  rw [if_neg (by omega)]at a1
  rw [if_neg (by show¬100<(P.fs++[_]).length;rw [List.length_append];simp;omega)]
  have hg0:(Pg.gls P.gs 0).1=0:=Classical.byContradiction fun hne=>by rw [zC hne]at a1;exact hne a1
  rw [fU hg0]at a1
  show(thn (Pg.gls P.gs 0) (Pg.fns (P.fs++[⟨nm,0,false,[],[]⟩]))).1=0∨(thn (Pg.gls P.gs 0) (Pg.fns (P.fs++[⟨nm,0,false,[],[]⟩]))).1=4
  rw [fU hg0,NR _ _ _ a1]
  unfold Pg.fn
  rw [if_neg (by rw [hn];decide),if_neg (fun hh=>hh.1 ⟨rfl,rfl⟩),if_neg (show¬8<([]:List Pm).length by decide)]
  rw [if_neg (show¬Pg.oV []≠0 from fun hh=>hh rfl)]
  split
  ·exact .inr rfl
  ·exact .inl (by rw [S.cnts])
 rcases hw with hw|hw
 ·left
  have hgs:Q.gs=P.gs:=by rw [hQ]
  have hfs:Q.fs=P.fs++[⟨nm,0,false,[],[]⟩]:=by rw [hQ]
  have hW:Wider P Q:=by
   refine⟨hgs,fun n r hc=>?_⟩
   unfold called at*
   split at hc
   ·rename_i c1;rw [if_pos c1];exact hc
   rename_i c1;rw [if_neg c1]
   split at hc
   ·rename_i c2;rw [if_pos c2];exact hc
   rename_i c2;rw [if_neg c2,hfs,List.find?_append]
   cases hf:P.fs.find? (fun f=>f.nm.data.toList==n)with
   |none=>rw [hf]at hc;cases hc
   |some f=>rw [hf]at hc;exact hc
  refine dS.2 ⟨hw,by rw [hgs];exact a2,?_,?_,?_⟩
  ·rw [hgs,hfs]
   refine Iw a3 ?_ (fun g hgm=>h2 g hgm)
   rw [KJ a2]
   intro hm
   rcases List.mem_append.1 hm with hm|hm
   ·simp only [List.mem_cons,List.not_mem_nil,or_false]at hm
    rcases hm with hm|hm
    ·exact hp hm
    ·exact hg hm
   ·obtain⟨g,hg1,hg2⟩:=List.mem_map.1 hm
    exact h1 g hg1 hg2
  ·rw [hfs]
   refine qV.2 (fun f hf=>?_)
   rcases List.mem_append.1 hf with hf|hf
   ·exact Dn hW f (qV.1 a4 f hf)
   ·rw [List.mem_singleton]at hf;subst hf
    unfold func
    show(if(stats Q 0 [] Env.new.open).1≠0 then(stats Q 0 [] Env.new.open).1 else if 200<words (stats Q 0 [] Env.new.open).2.slots then 4 else 0)=(0:Int)
    rw [show stats Q 0 [] Env.new.open=(0,Env.new.open)by rw [stats]]
    rw [if_neg (fun h=>h rfl),if_neg (show¬(200:Int)<words ((0:Int),Env.new.open).2.slots by show¬(200:Int)<0;decide)]
  ·unfold jw at*
   rw [hfs,List.any_append,a5];rfl
 ·right
  refine⟨?_,hw⟩
  unfold check
  rw [if_pos (by rw [hw];decide)]
  exact hw
end Ck
end
end Go.Proofs.Ythdckndjggljpaa
