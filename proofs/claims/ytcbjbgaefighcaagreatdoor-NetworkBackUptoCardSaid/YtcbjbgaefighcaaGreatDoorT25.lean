/- Part 25 of the proof. -/
import Derived.Test.YtcbjbgaefighcaaGreatDoorT0
import Derived.Test.YtcbjbgaefighcaaGreatDoorT24
set_option linter.all false
namespace Go.Proofs.YtcbjbgaefighcaaGreatDoor
open Go Go.Ax Go.Proofs
def ltL (l:Loc):Prop:=l.name.length<2^60∧l.inv.length<2^60∧∀t∈l.inv,t.clock.length<2^60
def PY (p:Proc):Prop:=p.name.length<2^60∧p.init.length<2^60∧p.locs.length<2^60∧(∀l∈p.locs,ltL l)∧p.edges.length<2^60∧∀x∈p.edges,Iz x
structure LtM (m:Model):Prop where
 name:m.name.length<2^60
 clocks:m.clocks.length<2^60
 clock:∀c∈m.clocks,c.length<2^60
 vars:m.vars.length<2^60
 var:∀v∈m.vars,v.name.length<2^60
 chans:m.chans.length<2^60
 chan:∀c∈m.chans,c.name.length<2^60
 funcs:m.funcs.length<2^60
 func:∀f∈m.funcs,HX f
 size:(J8 ⟨0,0,false⟩ m.funcs).nodes<2^61
 procs:m.procs.length<2^60
 proc:∀p∈m.procs,PY p
def Id (l:Loc):Bool:=decide (16<l.inv.length)
def Hm (p:Proc):Bool:=decide (20<p.locs.length)||decide (60<p.edges.length)||p.locs.any Id||p.edges.any K0
theorem Gy {l:List Func}:decide (UY l=2)= !(Us l):=by
 unfold UY;cases Us l <;> simp;split <;> simp
theorem RV {l:List Func}:decide (UY l=3)=(Us l&& !(JZ l)):=by
 unfold UY;cases Us l <;> cases JZ l <;> simp
theorem T7 {a b:Nat}:decide (a<b)= !decide (b≤a):=by rw[←decide_not,decide_eq_decide];omega
theorem Wo {α:Type}{p q:α→Bool}:∀{l:List α},(∀x∈l,p x=q x)→l.any p=l.any q
 |[],_=>rfl
 |a::l,h=>by rw[List.any_cons,List.any_cons,h a (dO ..),Wo fun x hx=>h x (dI _ hx)]
theorem E0 {x:Edge}(h:Y2 x=true):K0 x= !Uj x:=by
 simp only[Y2,cD]at h
 have e1:(x.sets.any fun a=>decide (Yc a.val=3))= !x.sets.all fun a=>Zm a.val:=by
  rw[dG,Bool.not_not]
  refine Wo fun a ha=> ?_
  have:=cH.1 h.1.1.1.2 a ha
  simp only[cD]at this
  rw[O0,this.2,dC]
 have e2:(!(isNone x.cond)&&decide (Yc x.cond=3))= !(isNone x.cond||Zm x.cond):=by
  have:=h.1.1.1.1.1.1.2
  rw[O0,Bool.not_or]
  cases hn:isNone x.cond with
  |true=>rfl
  |false=>rw[hn,cZ]at this;rw[this,dC]
 simp only[K0,Uj,e1,e2,T7,lB]
theorem DL {p:Proc}(h:YG p=true):Hm p= !Xu p:=by
 simp only[YG,cD]at h
 have e1:p.edges.any K0= !p.edges.all Uj:=by
  rw[dG,Bool.not_not]
  exact Wo fun x hx=>E0 (cH.1 h.2 x hx)
 have e2:p.locs.any Id= !p.locs.all fun l=>decide (l.inv.length≤16):=by
  rw[dG,Bool.not_not]
  exact Wo fun x hx=>by simp only[Id,T7]
 simp only[Hm,Xu,e1,e2,T7,lB]
structure Fo (A:Q3) (f:Nat) (o:AObj) (L:List (Nat×List AV)) (B:Q3):Prop where
 ovr:Z7 A B
 nf:A f=none
 hf:B f=some o
 loc:∀p∈L,p.1≠f∧B p.1=some (.cells p.2)
section
variable {A B:Q3}{f:Nat}{o:AObj}{L:List (Nat×List AV)}
theorem Fo.new (h:Fo A f o L B){k:Nat}{x:Option AObj}(hk:B k=none)(hx:∀es,x≠some (.mp es)):Fo A f o L (B.upd k x):={
 ovr:=h.ovr.set (h.ovr.gone hk) hx
 nf:=h.nf
 hf:=(Q5 (Q6 h.hf hk)).trans h.hf
 loc:=fun p hp=>⟨(h.loc p hp).1,(Q5 (Q6 (h.loc p hp).2 hk)).trans (h.loc p hp).2⟩}
theorem Fo.tip (h:Fo A f o L B){k:Nat}(hk:B k=none):Fo A f o L (B.upd k (some .tip)):=h.new hk (by simp)
theorem Fo.put (h:Fo A f o L B)(x:AObj)(hx:∀es,x≠ .mp es):Fo A f x L (B.upd f (some x)):={
 ovr:=h.ovr.set h.nf (by simpa using hx)
 nf:=h.nf
 hf:=Q0 ..
 loc:=fun p hp=>⟨(h.loc p hp).1,(Q5 (h.loc p hp).1).trans (h.loc p hp).2⟩}
theorem Fo.cell (h:Fo A f o L B){k:Nat}(hk:B k=none)(cs:List AV):Fo A f o ((k,cs)::L) (B.upd k (some (.cells cs))):={
 ovr:=h.ovr.set (h.ovr.gone hk) (by simp)
 nf:=h.nf
 hf:=(Q5 (Q6 h.hf hk)).trans h.hf
 loc:=fun p hp=>by
  rcases dT.1 hp with rfl|hp
  ·exact⟨(Q6 h.hf hk).symm,Q0 ..⟩
  ·exact⟨(h.loc p hp).1,(Q5 (Q6 (h.loc p hp).2 hk)).trans (h.loc p hp).2⟩}
theorem Fo.pop {p:Nat×List AV}(h:Fo A f o (p::L) B):Fo A f o L B:=⟨h.ovr,h.nf,h.hf,fun q hq=>h.loc q (dI _ hq)⟩
theorem Fo.at0 {k:Nat}{cs:List AV}(h:Fo A f o ((k,cs)::L) B):B k=some (.cells cs):=(h.loc _ (dO ..)).2
theorem Fo.at1 {k:Nat}{cs:List AV}{p:Nat×List AV}(h:Fo A f o (p::(k,cs)::L) B):B k=some (.cells cs):=h.pop.at0
end
section
variable (G:Nat→Option (List AV))
theorem kn1 {A B:Q3}{f:Nat}{w m:Bool}{L:List (Nat×List AV)}{C:Cx}{s:List Fr}{env:Qo}{ds:List QU}{d:Option Nat}{l:List LInstr}(hP:C.P=Tryz.prog)(hG:C.G=G){n:Bs}{t:Option Nat}(hn:n.length<2^60)(h:Fo A f (Zc w m) L B)
 (hk:∀B',Fo A f (Zc (w|| !Qe n) m) L B'→C.ops l s (putD env d ZK) ds B'):C.call (.func (.func 55) [] []) [.ptr f 0,.slice 1 1 [.str n] t] d l s env ds B:=by
 have:=Th G (A:=B) (p:=f) (w:=w) (m:=m) (l:=[n]) (n:=1) (cs:=[.str n]) (t:=t) rfl rfl (by simp) (by simpa using Nat.lt_trans hn (by decide)) h.hf
 obtain⟨_,_,_,_,_⟩:=C
 simp only at hP hG
 subst hP hG
 refine Q2 this ?_
 exact hk _ (by simpa using h.put (Zc (w|| !Qe n) m) (by simp [Zc]))
theorem kn2 {A B:Q3}{f:Nat}{w m:Bool}{L:List (Nat×List AV)}{C:Cx}{s:List Fr}{env:Qo}{ds:List QU}{d:Option Nat}{l:List LInstr}(hP:C.P=Tryz.prog)(hG:C.G=G){ns:List Bs}{n:Nat}{cs:List AV}{t:Option Nat}(hn:n=ns.length)(hcs:cs=ns.flatMap Zl)(hl:ns.length<2^60)(hns:∀x∈ns,x.length<2^60)(h:Fo A f (Zc w m) L B)
 (hk:∀B',Fo A f (Zc (w|| !ns.all Qe) m) L B'→C.ops l s (putD env d ZK) ds B'):C.call (.func (.func 55) [] []) [.ptr f 0,.slice 1 n cs t] d l s env ds B:=by
 have:=Th G (A:=B) (p:=f) (w:=w) (m:=m) (l:=ns) (n:=n) (cs:=cs) (t:=t) hn hcs (by omega) (fun x hx=>by have:=hns x hx;omega) h.hf
 obtain⟨_,_,_,_,_⟩:=C
 simp only at hP hG
 subst hP hG
 refine Q2 this ?_
 refine hk _ ?_
 rw[dG,Bool.not_not]
 exact h.put _ (by simp [Zc])
theorem kn3 {A B:Q3}{f:Nat}{w m:Bool}{L:List (Nat×List AV)}{C:Cx}{s:List Fr}{env:Qo}{ds:List QU}{d:Option Nat}{l:List LInstr}(hP:C.P=Tryz.prog)(hG:C.G=G){ns:List Int}{n:Nat}{cs:List AV}{t:Option Nat}(hn:n=ns.length)(hcs:cs=ns.map fun s=>i64 s)(hl:ns.length<2^60)(h:Fo A f (Zc w m) L B)
 (hk:∀B',Fo A f (Zc (w|| !ns.all ZJ) m) L B'→C.ops l s (putD env d ZK) ds B'):C.call (.func (.func 57) [] []) [.ptr f 0,.slice 1 n cs t] d l s env ds B:=by
 have:=k57 G (A:=B) (p:=f) (w:=w) (m:=m) (l:=ns) (n:=n) (cs:=cs) (t:=t) hn (by rw[hcs,List.map_eq_flatMap]) (by omega) h.hf
 obtain⟨_,_,_,_,_⟩:=C
 simp only at hP hG
 subst hP hG
 refine Q2 this ?_
 refine hk _ ?_
 rw[dG,Bool.not_not]
 exact h.put _ (by simp [Zc])
theorem S9 {A B:Q3}{f:Nat}{w m:Bool}{L:List (Nat×List AV)}{C:Cx}{s:List Fr}{env:Qo}{ds:List QU}{d:Option Nat}{l:List LInstr}(hP:C.P=Tryz.prog)(hG:C.G=G){n:Nat}{k:Nat}{kk:Int}(hkk:kk=k)(h:Fo A f (Zc w m) L B)
 (hk:∀B',Fo A f (Zc w (m||decide (k<n))) L B'→C.ops l s (putD env d ZK) ds B'):C.call (.func (.func 56) [] []) [.ptr f 0,i64 n,i64 kk] d l s env ds B:=by
 subst hkk
 have:=k56 G (A:=B) (p:=f) (w:=w) (m:=m) (n:=n) (k:=k) h.hf
 obtain⟨_,_,_,_,_⟩:=C
 simp only at hP hG
 subst hP hG
 refine Q2 this ?_
 refine hk _ ?_
 rw[show decide ((k:Int)<(n:Int))=decide (k<n)from decide_eq_decide.2 (by omega)]
 exact h.put _ (by simp [Zc])
theorem N0 (mo:Model){A:Q3}(hm:LtM mo):Qu Tryz.prog G 16 [.agg mo.cells] A (i64 (Vo mo)) A:=by
 refine Q4 l16 (fE rfl) ?_
 obtain⟨nm,cl,vs,ch,fs,ps⟩:=mo
 obtain⟨y1,y2,y3,y4,y5,y6,y7,y8,y9,y10,y11,y12⟩:=hm
 simp only at y1 y2 y3 y4 y5 y6 y7 y8 y9 y10 y11 y12
 unfold C16
 generalize hMC:Model.cells ⟨nm,cl,vs,ch,fs,ps⟩=MC
 have hmc:MC=[.str nm,.slice 1 cl.length (cl.flatMap Zl) none,.slice 4 vs.length (vs.flatMap Var.cells) none,.slice 3 ch.length (ch.flatMap Chan.cells) none,.slice 3 fs.length (fs.flatMap Func.cells) none,.slice 4 ps.length (ps.flatMap Proc.cells) none]:=hMC.symm
 clear hMC
 refine Qd (fun env ds B=>∃c,env 1=.ptr c 0∧ds=[]∧A c=none∧B=A.upd c (some (.cells MC))) ?_ ?_
 ·simp only[Q1,seval]
  intro c hc
  exact⟨c,rfl,hc,rfl⟩
 rintro env ds B ⟨c,e1,rfl,hc,rfl⟩
 refine Qd (fun env ds B=>∃f,env 1=.ptr c 0∧env 3=.ptr f 0∧ds=[]∧Fo A f (Zc false false) [(c,MC)] B) ?_ ?_
 ·simp only[e1,Q1,seval]
  intro f hf
  obtain⟨hfc,hf⟩:=Q9 hf
  exact⟨f,rfl,((Z7.refl A).set hc (by simp)).set hf (by simp),hf,Q0 ..,fun p hp=>by
   simp only[dT,dL,or_false]at hp;subst hp
   exact⟨hfc.symm,(Q5 hfc.symm).trans (Q0 ..)⟩⟩
 clear hc
 rintro env ds B ⟨f,e1,e3,rfl,h⟩
 refine Qd (fun env ds B=>env 1=.ptr c 0∧env 3=.ptr f 0∧ds=[]∧Fo A f (Zc (!Qe nm) false) [(c,MC)] B) ?_ ?_
 ·have hcc:=h.at0;rw[hmc]at hcc
  simp only[e1,e3,hcc,Q1,seval]
  refine QY (cs:=[.str nm]) (Jf _ _ rfl (by decide)) fun t ht=> ?_
  simp only[e1,e3,Q1,seval]
  refine kn1 G rfl rfl y1 (h.tip ht) fun B' h=> ?_
  simp only[e1,e3,Q1,seval]
  simpa using h
 clear h
 rintro env ds B ⟨e1,e3,rfl,h⟩
 refine Qd (fun env ds B=>env 1=.ptr c 0∧env 3=.ptr f 0∧ds=[]∧Fo A f (Zc (!Qe nm|| !cl.all Qe) false) [(c,MC)] B) ?_ ?_
 ·have hcc:=h.at0;rw[hmc]at hcc
  simp only[e1,e3,hcc,Q1,seval]
  refine kn2 G rfl rfl rfl rfl y2 y3 h fun B' h=> ?_
  simp only[e1,e3,Q1,seval]
  exact h
 clear h
 rintro env ds B ⟨e1,e3,rfl,h⟩
 generalize hw1:(!Qe nm|| !cl.all Qe)=w1 at h
 refine Qd (fun env ds B=>env 1=.ptr c 0∧env 3=.ptr f 0∧ds=[]∧Fo A f (Zc w1 (decide (8<cl.length))) [(c,MC)] B) ?_ ?_
 ·have hcc:=h.at0;rw[hmc]at hcc
  simp only[e1,e3,hcc,Q1,seval]
  refine S9 G (k:=8) rfl rfl rfl h fun B' h=> ?_
  simp only[e1,e3,Q1,seval]
  simpa using h
 clear h
 rintro env ds B ⟨e1,e3,rfl,h⟩
 refine Qd (fun env ds B=>env 1=.ptr c 0∧env 3=.ptr f 0∧ds=[]∧Fo A f (Zc w1 (decide (8<cl.length)||decide (16<vs.length))) [(c,MC)] B) ?_ ?_
 ·have hcc:=h.at0;rw[hmc]at hcc
  simp only[e1,e3,hcc,Q1,seval]
  refine S9 G (k:=16) rfl rfl rfl h fun B' h=> ?_
  simp only[e1,e3,Q1,seval]
  exact h
 clear h
 rintro env ds B ⟨e1,e3,rfl,h⟩
 generalize hm1:(decide (8<cl.length)||decide (16<vs.length))=m1 at h
 refine Qd (fun env ds B=>env 1=.ptr c 0∧env 3=.ptr f 0∧ds=[]∧Fo A f (Zc (w1|| !vs.all W5) m1) [(c,MC)] B) ?_ ?_
 ·have hcc:=h.at0;rw[hmc]at hcc
  simp only[e1,e3,hcc,Q1,seval]
  refine Qv (fun k env ds B=>∃pre post,vs=pre++post∧k=post.length∧env 1=.ptr c 0∧env 3=.ptr f 0∧env 30=.slice 4 vs.length (vs.flatMap Var.cells) none∧env 31=i64 vs.length∧env 32=i64 pre.length∧ds=[]∧Fo A f (Zc (w1|| !pre.all W5) m1) [(c,MC)] B) vs.length
   ⟨[],vs,rfl,rfl,e1,e3,rfl,rfl,rfl,rfl,by simpa using h⟩ ?_
  clear h
  rintro k env ds B ⟨pre,post,hpp,rfl,e1,e3,e58,e59,e60,rfl,h⟩
  have hl2:(pre.length:Int)+post.length=vs.length:=by rw[hpp];simp
  cases post with
  |nil=>
   have hlt:¬((pre.length:Int)<vs.length):=by simp at hl2;omega
   have hpl:vs=pre:=by rw[hpp];simp
   simp only[e1,e3,e58,e59,e60,Q1,seval]
   refine⟨fun h=>absurd h hlt,fun _=>by rw[hpl];exact h⟩
  |cons x post=>
   have hlt:((pre.length:Int)<vs.length):=by simp at hl2;omega
   have e2:IntKind.i64.wrap ((pre.length:Int)+1)=((pre++[x]).length:Nat):=by rw[Qg (by omega) (by omega)];simp
   have z1:=y5 x (by rw[hpp];simp)
   simp only[e1,e3,e58,e59,e60,Q1,seval]
   refine⟨fun _=>⟨hlt,?_⟩,fun h=>absurd hlt h⟩
   have hd:(vs.flatMap Var.cells).drop (pre.length*4)=Var.cells x++post.flatMap Var.cells:=by rw[hpp,Zg (sz:=4) (fun _=>rfl)];simp
   rw[hd,dM (show(Var.cells x).length=4 from rfl)]
   refine⟨by simp [Var.cells],?_⟩
   intro d hd
   simp only[Var.cells,e3,Q1,seval]
   have h:=h.cell hd [.str x.name,i64 x.low,i64 x.high,i64 x.init]
   generalize B.upd d (some (.cells [.str x.name,i64 x.low,i64 x.high,i64 x.init]))=B at*
   refine QY (cs:=[.str x.name]) (Jf _ _ rfl (by decide)) fun t ht=> ?_
   simp only[e3,Q1,seval]
   refine kn1 G rfl rfl z1 (h.tip ht) fun B h=> ?_
   simp only[e3,h.at0,Q1,seval]
   refine QY (cs:=[i64 x.low,i64 x.high,i64 x.init]) (by rfl) fun t ht=> ?_
   simp only[e3,Q1,seval]
   refine kn3 G (ns:=[x.low,x.high,x.init]) rfl rfl rfl rfl (by simp) (h.tip ht) fun B h=> ?_
   simp only[e1,e3,e58,e59,e60,e2,Q1,seval]
   refine⟨post.length,by simp,pre++[x],post,by simp [hpp],rfl,rfl,?_⟩
   have e:(w1|| !(pre++[x]).all W5)=((w1|| !pre.all W5)|| !Qe x.name|| ![x.low,x.high,x.init].all ZJ):=by simp [W5,lB,dK]
   rw[e];exact h.pop
 clear h
 rintro env ds B ⟨e1,e3,rfl,h⟩
 generalize hw2:(w1|| !vs.all W5)=w2 at h
 refine Qd (fun env ds B=>env 1=.ptr c 0∧env 3=.ptr f 0∧ds=[]∧Fo A f (Zc w2 (m1||decide (16<ch.length))) [(c,MC)] B) ?_ ?_
 ·have hcc:=h.at0;rw[hmc]at hcc
  simp only[e1,e3,hcc,Q1,seval]
  refine S9 G (k:=16) rfl rfl rfl h fun B' h=> ?_
  simp only[e1,e3,Q1,seval]
  exact h
 clear h
 rintro env ds B ⟨e1,e3,rfl,h⟩
 generalize hm2:(m1||decide (16<ch.length))=m2 at h
 refine Qd (fun env ds B=>env 1=.ptr c 0∧env 3=.ptr f 0∧ds=[]∧Fo A f (Zc (w2|| !ch.all Ob) m2) [(c,MC)] B) ?_ ?_
 ·have hcc:=h.at0;rw[hmc]at hcc
  simp only[e1,e3,hcc,Q1,seval]
  refine Qv (fun k env ds B=>∃pre post,ch=pre++post∧k=post.length∧env 1=.ptr c 0∧env 3=.ptr f 0∧env 54=.slice 3 ch.length (ch.flatMap Chan.cells) none∧env 55=i64 ch.length∧env 56=i64 pre.length∧ds=[]∧Fo A f (Zc (w2|| !pre.all Ob) m2) [(c,MC)] B) ch.length
   ⟨[],ch,rfl,rfl,e1,e3,rfl,rfl,rfl,rfl,by simpa using h⟩ ?_
  clear h hcc
  rintro k env ds B ⟨pre,post,hpp,rfl,e1,e3,e58,e59,e60,rfl,h⟩
  have hl2:(pre.length:Int)+post.length=ch.length:=by rw[hpp];simp
  cases post with
  |nil=>
   have hlt:¬((pre.length:Int)<ch.length):=by simp at hl2;omega
   have hpl:ch=pre:=by rw[hpp];simp
   simp only[e1,e3,e58,e59,e60,Q1,seval]
   refine⟨fun h=>absurd h hlt,fun _=>by rw[hpl];exact h⟩
  |cons x post=>
   have hlt:((pre.length:Int)<ch.length):=by simp at hl2;omega
   have e2:IntKind.i64.wrap ((pre.length:Int)+1)=((pre++[x]).length:Nat):=by rw[Qg (by omega) (by omega)];simp
   have z1:=y7 x (by rw[hpp];simp)
   simp only[e1,e3,e58,e59,e60,Q1,seval]
   refine⟨fun _=>⟨hlt,?_⟩,fun h=>absurd hlt h⟩
   have hd:(ch.flatMap Chan.cells).drop (pre.length*3)=Chan.cells x++post.flatMap Chan.cells:=by rw[hpp,Zg (sz:=3) (fun _=>rfl)];simp
   rw[hd,dM (show(Chan.cells x).length=3 from rfl)]
   refine⟨by simp [Chan.cells],?_⟩
   intro d hd
   simp only[Chan.cells,e3,Q1,seval]
   have h:=h.cell hd [.str x.name,bo x.broadcast,bo x.urgent]
   generalize B.upd d (some (.cells [.str x.name,bo x.broadcast,bo x.urgent]))=B at*
   refine QY (cs:=[.str x.name]) (Jf _ _ rfl (by decide)) fun t ht=> ?_
   simp only[e3,Q1,seval]
   refine kn1 G rfl rfl z1 (h.tip ht) fun B h=> ?_
   simp only[e1,e3,e58,e59,e60,e2,Q1,seval]
   refine⟨post.length,by simp,pre++[x],post,by simp [hpp],rfl,rfl,?_⟩
   have e:(w2|| !(pre++[x]).all Ob)=((w2|| !pre.all Ob)|| !Qe x.name):=by simp [Ob,lB,dK]
   rw[e];exact h.pop
 clear h
 rintro env ds B ⟨e1,e3,rfl,h⟩
 generalize hw3:(w2|| !ch.all Ob)=w3 at h
 refine Qd (fun env ds B=>env 1=.ptr c 0∧env 3=.ptr f 0∧ds=[]∧Fo A f (Zc (w3||decide (UY fs=2)) (m2||decide (UY fs=3))) [(c,MC)] B) ?_ ?_
 ·have hcc:=h.at0;rw[hmc]at hcc
  simp only[e1,e3,hcc,Q1,seval]
  refine Q2 (k59 G fs y9 y8 y10) ?_
  simp only[e1,e3,Q1,seval]
  refine Q2 (k58 G h.hf) ?_
  simp only[e1,e3,Q1,seval]
  exact h.put _ (by simp [Zc])
 clear h
 rintro env ds B ⟨e1,e3,rfl,h⟩
 generalize hw4:(w3||decide (UY fs=2))=w4 at h
 generalize hm3:(m2||decide (UY fs=3))=m3 at h
 refine Qd (fun env ds B=>env 1=.ptr c 0∧env 3=.ptr f 0∧ds=[]∧Fo A f (Zc w4 (m3||decide (6<ps.length))) [(c,MC)] B) ?_ ?_
 ·have hcc:=h.at0;rw[hmc]at hcc
  simp only[e1,e3,hcc,Q1,seval]
  refine S9 G (k:=6) rfl rfl rfl h fun B' h=> ?_
  simp only[e1,e3,Q1,seval]
  exact h
 clear h
 rintro env ds B ⟨e1,e3,rfl,h⟩
 generalize hm4:(m3||decide (6<ps.length))=m4 at h
 refine Qd (fun env ds B=>env 1=.ptr c 0∧env 3=.ptr f 0∧ds=[]∧Fo A f (Zc (w4|| !ps.all YG) (m4||ps.any Hm)) [(c,MC)] B) ?_ ?_
 ·have hcc:=h.at0;rw[hmc]at hcc
  simp only[e1,e3,hcc,Q1,seval]
  refine Qv (fun k env ds B=>∃pre post,ps=pre++post∧k=post.length∧env 1=.ptr c 0∧env 3=.ptr f 0∧env 74=.slice 4 ps.length (ps.flatMap Proc.cells) none∧env 75=i64 ps.length∧env 76=i64 pre.length∧ds=[]∧Fo A f (Zc (w4|| !pre.all YG) (m4||pre.any Hm)) [(c,MC)] B) ps.length
   ⟨[],ps,rfl,rfl,e1,e3,rfl,rfl,rfl,rfl,by simpa using h⟩ ?_
  clear h hcc
  rintro k env ds B ⟨pre,post,hpp,rfl,e1,e3,e58,e59,e60,rfl,h⟩
  have hl2:(pre.length:Int)+post.length=ps.length:=by rw[hpp];simp
  cases post with
  |nil=>
   have hlt:¬((pre.length:Int)<ps.length):=by simp at hl2;omega
   have hpl:ps=pre:=by rw[hpp];simp
   simp only[e1,e3,e58,e59,e60,Q1,seval]
   refine⟨fun h=>absurd h hlt,fun _=>by rw[hpl];exact h⟩
  |cons x post=>
   have hlt:((pre.length:Int)<ps.length):=by simp at hl2;omega
   have e2:IntKind.i64.wrap ((pre.length:Int)+1)=((pre++[x]).length:Nat):=by rw[Qg (by omega) (by omega)];simp
   have z:=y12 x (by rw[hpp];simp)
   simp only[e1,e3,e58,e59,e60,Q1,seval]
   refine⟨fun _=>⟨hlt,?_⟩,fun h=>absurd hlt h⟩
   have hd:(ps.flatMap Proc.cells).drop (pre.length*4)=Proc.cells x++post.flatMap Proc.cells:=by rw[hpp,Zg (sz:=4) (fun _=>rfl)];simp
   rw[hd,dM (show(Proc.cells x).length=4 from rfl)]
   refine⟨by simp [Proc.cells],?_⟩
   have hall:YG x=(Qe x.name&&Qe x.init&&x.locs.all Vm&&x.edges.all Y2):=rfl
   have hmax:Hm x=(decide (20<x.locs.length)||decide (60<x.edges.length)||x.locs.any Id||x.edges.any K0):=rfl
   have hmem:x∈ps:=by rw[hpp];simp
   obtain⟨pn,pi,ls,es⟩:=x
   obtain⟨z1,z2,z3,z4,z5,z6⟩:=z
   simp only at z1 z2 z3 z4 z5 z6 hall hmax
   intro d hd
   simp only[Proc.cells,e3,Qy,Q1,seval]
   have h:=h.cell hd [.str pn,.str pi,.slice 4 ls.length (ls.flatMap Loc.cells) none,.slice 13 es.length (es.flatMap Edge.cells) none]
   generalize B.upd d (some (.cells [.str pn,.str pi,.slice 4 ls.length (ls.flatMap Loc.cells) none,.slice 13 es.length (es.flatMap Edge.cells) none]))=B at*
   refine QY (cs:=[.str pn,.str pi]) (by rfl) fun t ht=> ?_
   simp only[e3,Q1,seval]
   refine kn2 G (ns:=[pn,pi]) rfl rfl rfl rfl (by simp) (by simp only[dT,dL,or_false];rintro s (rfl|rfl) <;> omega) (h.tip ht) fun B h=> ?_
   generalize hw5:(w4|| !pre.all YG|| ![pn,pi].all Qe)=w5 at h
   simp only[e3,h.at0,Q1,seval]
   refine S9 G (k:=20) rfl rfl rfl h fun B h=> ?_
   simp only[e3,h.at0,Q1,seval]
   refine S9 G (k:=60) rfl rfl rfl h fun B h=> ?_
   generalize hm5:(m4||pre.any Hm||decide (20<ls.length)||decide (60<es.length))=m5 at h
   simp only[e3,h.at0,Q1,seval]
   refine Qv (fun k env ds B=>∃pre' post',ls=pre'++post'∧k=post'.length∧env 1=.ptr c 0∧env 3=.ptr f 0∧env 9=.ptr d 0∧env 74=.slice 4 ps.length (ps.flatMap Proc.cells) none∧env 75=i64 ps.length∧env 76=i64 pre.length∧
    env 95=.slice 4 ls.length (ls.flatMap Loc.cells) none∧env 96=i64 ls.length∧env 97=i64 pre'.length∧ds=[]∧Fo A f (Zc (w5|| !pre'.all Vm) (m5||pre'.any Id)) [(d,[.str pn,.str pi,.slice 4 ls.length (ls.flatMap Loc.cells) none,.slice 13 es.length (es.flatMap Edge.cells) none]),(c,MC)] B) ls.length
    ⟨[],ls,rfl,rfl,e1,e3,rfl,e58,e59,e60,rfl,rfl,rfl,rfl,by simpa using h⟩ ?_
   clear h e1 e3 e58 e59 e60 hd
   rintro k env ds B ⟨pre',post',hpp',rfl,e1,e3,e9,e58,e59,e60,e95,e96,e97,rfl,h⟩
   have hl2':(pre'.length:Int)+post'.length=ls.length:=by rw[hpp'];simp
   cases post' with
   |nil=>
    have hlt':¬((pre'.length:Int)<ls.length):=by simp at hl2';omega
    have hpl:ls=pre':=by rw[hpp'];simp
    rw[←hpl]at h
    generalize hw6:(w5|| !ls.all Vm)=w6 at h
    generalize hm6:(m5||ls.any Id)=m6 at h
    simp only[e1,e3,e9,e95,e96,e97,h.at0,Q1,seval]
    refine⟨fun h=>absurd h hlt',fun _=> ?_⟩
    refine Qv (fun k env ds B=>∃pre' post',es=pre'++post'∧k=post'.length∧env 1=.ptr c 0∧env 3=.ptr f 0∧env 74=.slice 4 ps.length (ps.flatMap Proc.cells) none∧env 75=i64 ps.length∧env 76=i64 pre.length∧
     env 127=.slice 13 es.length (es.flatMap Edge.cells) none∧env 128=i64 es.length∧env 129=i64 pre'.length∧ds=[]∧Fo A f (Zc (w6|| !pre'.all Y2) (m6||pre'.any K0)) [(c,MC)] B) es.length
     ⟨[],es,rfl,rfl,e1,e3,e58,e59,e60,rfl,rfl,rfl,rfl,by simpa using h.pop⟩ ?_
    clear h e1 e3 e9 e58 e59 e60 e95 e96 e97
    rintro k env ds B ⟨pre',post',hpp',rfl,e1,e3,e58,e59,e60,e95,e96,e97,rfl,h⟩
    have hl2':(pre'.length:Int)+post'.length=es.length:=by rw[hpp'];simp
    cases post' with
    |nil=>
     have hlt':¬((pre'.length:Int)<es.length):=by simp at hl2';omega
     have hpl':es=pre':=by rw[hpp'];simp
     rw[←hpl']at h
     simp only[e1,e3,e58,e59,e60,e95,e96,e97,e2,Q1,seval]
     refine⟨fun h=>absurd h hlt',fun _=> ?_⟩
     refine⟨post.length,by simp,pre++[⟨pn,pi,ls,es⟩],post,by simp [hpp],rfl,rfl,?_⟩
     subst hm6 hw6 hm5 hw5
     have e:(w4|| !(pre++[(⟨pn,pi,ls,es⟩:Proc)]).all YG)=((w4|| !pre.all YG|| ![pn,pi].all Qe|| !ls.all Vm)|| !es.all Y2):=by rw[fK,dU,hall];simp [lB,dK]
     have e':(m4||(pre++[(⟨pn,pi,ls,es⟩:Proc)]).any Hm)=((m4||pre.any Hm||decide (20<ls.length)||decide (60<es.length)||ls.any Id)||es.any K0):=by rw[List.any_append,List.any_cons,hmax];simp only[List.any_nil,cT,dK]
     rw[e,e'];exact h
    |cons x post'=>
     have hlt':((pre'.length:Int)<es.length):=by simp at hl2';omega
     have e2':IntKind.i64.wrap ((pre'.length:Int)+1)=((pre'++[x]).length:Nat):=by rw[Qg (by omega) (by omega)];simp
     have zx:=z6 x (by rw[hpp'];simp)
     simp only[e1,e3,e95,e96,e97,Q1,seval]
     refine⟨fun _=>⟨hlt',?_⟩,fun h=>absurd hlt' h⟩
     have hd:(es.flatMap Edge.cells).drop (pre'.length*13)=Edge.cells x++post'.flatMap Edge.cells:=by rw[hpp',Zg (sz:=13) Edge.cells_len];simp
     rw[hd,dM (Edge.cells_len x)]
     refine⟨by simp [Edge.cells_len],?_⟩
     intro d hd'
     have hcell:Edge.cells x=[.str x.src,.str x.dst,Qy 4 Test.cells x.tests]++x.cond.cells++[.str x.chan,bo x.send,Qy 5 Assign.cells x.sets,Qy 2 Clear.cells x.clears,i64 x.cost,i64 x.kind]:=rfl
     obtain⟨src,dst,ts,co,cn,sn,ss,cs,cst,kd⟩:=x
     obtain⟨ck,cm,ci,cxs⟩:=co
     simp only[e3,Edge.cells,Exp.cells,Qy,Q1,seval]
     have h:=h.new (x:=some (.cells (Edge.cells ⟨src,dst,ts,.mk ck cm ci cxs,cn,sn,ss,cs,cst,kd⟩))) hd' (by simp)
     simp only[Edge.cells,Exp.cells,Qy,cF,cI]at h
     refine Q2 (k61 G ⟨src,dst,ts,.mk ck cm ci cxs,cn,sn,ss,cs,cst,kd⟩ zx h.hf) ?_
     simp only[e1,e3,e58,e59,e60,e95,e96,e97,e2',Q1,seval]
     refine⟨post'.length,by simp,pre'++[⟨src,dst,ts,.mk ck cm ci cxs,cn,sn,ss,cs,cst,kd⟩],post',by simp [hpp'],rfl,rfl,?_⟩
     have e:∀x:Edge,(w6|| !(pre'++[x]).all Y2)=(w6|| !pre'.all Y2||SU x):=fun x=>by simp only[fK,dU,lP,dB,lB,dK,SU]
     have e':∀x:Edge,(m6||(pre'++[x]).any K0)=(m6||pre'.any K0||K0 x):=fun x=>by simp only[List.any_append,List.any_cons,List.any_nil,cT,dK]
     rw[e,e'];exact h.put _ (by simp [Zc])
   |cons x post'=>
    have hlt':((pre'.length:Int)<ls.length):=by simp at hl2';omega
    have e2':IntKind.i64.wrap ((pre'.length:Int)+1)=((pre'++[x]).length:Nat):=by rw[Qg (by omega) (by omega)];simp
    have hlw:Vm x=(Qe x.name&&decide (0≤x.kind∧x.kind≤2)&&x.inv.all Vp&&ZJ x.rate):=rfl
    have hlm:Id x=decide (16<x.inv.length):=rfl
    have zx:=z4 x (by rw[hpp'];simp)
    simp only[e1,e3,e95,e96,e97,Q1,seval]
    refine⟨fun _=>⟨hlt',?_⟩,fun h=>absurd hlt' h⟩
    have hd:(ls.flatMap Loc.cells).drop (pre'.length*4)=Loc.cells x++post'.flatMap Loc.cells:=by rw[hpp',Zg (sz:=4) (fun _=>rfl)];simp
    rw[hd,dM (show(Loc.cells x).length=4 from rfl)]
    refine⟨by simp [Loc.cells],?_⟩
    obtain⟨ln,lk,li,lr⟩:=x
    obtain⟨zx1,zx2,zx3⟩:=zx
    simp only at zx1 zx2 zx3 hlw hlm
    intro d' hd'
    simp only[Loc.cells,e3,Qy,Q1,seval]
    have h:=h.cell hd' [.str ln,i64 lk,.slice 4 li.length (li.flatMap Test.cells) none,i64 lr]
    generalize B.upd d' (some (.cells [.str ln,i64 lk,.slice 4 li.length (li.flatMap Test.cells) none,i64 lr]))=B at*
    refine QY (cs:=[.str ln]) (Jf _ _ rfl (by decide)) fun t ht=> ?_
    simp only[e3,Q1,seval]
    refine kn1 G rfl rfl zx1 (h.tip ht) fun B h=> ?_
    generalize hw6:(w5|| !pre'.all Vm|| !Qe ln)=w6 at h
    simp only[H9,Oz]
    refine Qd (fun env ds B=>env 1=.ptr c 0∧env 3=.ptr f 0∧env 9=.ptr d 0∧env 11=.ptr d' 0∧env 74=.slice 4 ps.length (ps.flatMap Proc.cells) none∧env 75=i64 ps.length∧env 76=i64 pre.length∧
     env 95=.slice 4 ls.length (ls.flatMap Loc.cells) none∧env 96=i64 ls.length∧env 97=i64 pre'.length∧ds=[]∧Fo A f (Zc (w6|| !decide (0≤lk∧lk≤2)) (m5||pre'.any Id)) ((d',[.str ln,i64 lk,.slice 4 li.length (li.flatMap Test.cells) none,i64 lr])::(d,[.str pn,.str pi,.slice 4 ls.length (ls.flatMap Loc.cells) none,.slice 13 es.length (es.flatMap Edge.cells) none])::[(c,MC)]) B) ?_ ?_
    ·have hff:=h.hf
     unfold Zc at hff
     cases w6 with
     |true=>
      simp only[e1,e3,e9,e58,e59,e60,e95,e96,e97,hff,h.at0,QW,Q1,seval]
      exact h.put _ (by simp [Zc])
     |false=>
      simp only[e1,e3,e9,e58,e59,e60,e95,e96,e97,hff,h.at0,QW,Q1,seval]
      refine⟨fun a=> ?_,fun a=>⟨fun b=> ?_,fun b=> ?_⟩⟩
      ·rw[show(!decide (0≤lk∧lk≤2))=true by simp;omega];exact h.put _ (by simp [Zc])
      ·rw[show(!decide (0≤lk∧lk≤2))=true by simp;omega];exact h.put _ (by simp [Zc])
      ·rw[show(!decide (0≤lk∧lk≤2))=false by simp;omega];exact h.put _ (by simp [Zc])
    clear h e1 e3 e9 e58 e59 e60 e95 e96 e97 hd' ht
    rintro env ds B ⟨e1,e3,e9,e11,e58,e59,e60,e95,e96,e97,rfl,h⟩
    generalize hw7:(w6|| !decide (0≤lk∧lk≤2))=w7 at h
    simp only[e3,e11,h.at0,Q1,seval]
    refine Q2 (k60 G rfl rfl (by omega) (fun x hx=>by have:=zx3 x hx;omega) h.hf) ?_
    have h:=h.put (Zc (w7|| !(li.all Vp)) (m5||pre'.any Id||decide (16<li.length))) (by simp [Zc])
    generalize B.upd f (some (Zc (w7|| !(li.all Vp)) (m5||pre'.any Id||decide (16<li.length))))=B at*
    simp only[e3,e11,h.at0,Q1,seval]
    refine QY (cs:=[i64 lr]) (by rfl) fun t ht=> ?_
    simp only[e3,Q1,seval]
    refine kn3 G (ns:=[lr]) rfl rfl rfl rfl (by simp) (h.tip ht) fun B h=> ?_
    simp only[e1,e3,e9,e58,e59,e60,e95,e96,e97,e2',Q1,seval]
    refine⟨post'.length,by simp,pre'++[⟨ln,lk,li,lr⟩],post',by simp [hpp'],rfl,rfl,?_⟩
    subst hw7 hw6
    have e:(w5|| !(pre'++[(⟨ln,lk,li,lr⟩:Loc)]).all Vm)=((w5|| !pre'.all Vm|| !Qe ln|| !decide (0≤lk∧lk≤2))|| !li.all Vp|| ![lr].all ZJ):=by rw[fK,dU,hlw];simp only[dU,lP,dB,lB,dK]
    have e':(m5||(pre'++[(⟨ln,lk,li,lr⟩:Loc)]).any Id)=(m5||pre'.any Id||decide (16<li.length)):=by rw[List.any_append,List.any_cons,hlm];simp only[List.any_nil,cT,dK]
    rw[e,e'];exact h.pop
 clear h
 rintro env ds B ⟨e1,e3,rfl,h⟩
 have eW:(w4|| !ps.all YG)= !WQ ⟨nm,cl,vs,ch,fs,ps⟩:=by
  subst hw4 hw3 hw2 hw1
  simp only[WQ,Gy,lB,dK]
 have eM:WQ ⟨nm,cl,vs,ch,fs,ps⟩=true→(m4||ps.any Hm)= !Ub ⟨nm,cl,vs,ch,fs,ps⟩:=fun hw=>by
  simp only[WQ,cD]at hw
  subst hm4 hm3 hm2 hm1
  have e1:ps.any Hm= !ps.all Xu:=by
   rw[dG,Bool.not_not]
   exact Wo fun p hp=>DL (cH.1 hw.2 p hp)
  simp only[Ub,e1,RV,hw.1.2,dC,T7,lB,dK]
 rw[eW]at h
 have hO:=h.ovr
 have hff:=h.hf
 unfold Zc at hff
 cases hw:WQ ⟨nm,cl,vs,ch,fs,ps⟩with
 |false=>
  rw[hw]at hff
  simp only[e1,e3,hff,Q1,seval]
  exact Qb (by simp [Vo,hw,GP]) hO
 |true=>
  rw[hw,eM hw]at hff
  cases hm:Ub ⟨nm,cl,vs,ch,fs,ps⟩with
  |false=>
   rw[hm]at hff
   simp only[e1,e3,hff,Q1,seval]
   exact Qb (by simp [Vo,hw,hm,P6]) hO
  |true=>
   rw[hm]at hff
   simp only[e1,e3,hff,Q1,seval]
   exact Qb (by simp [Vo,hw,hm]) hO
end
end Go.Proofs.YtcbjbgaefighcaaGreatDoor
