/- Part 31 of the proof. -/
import Derived.Test.YtcbjbgaefighcaaGreatDoorT0
import Derived.Test.YtcbjbgaefighcaaGreatDoorT30
set_option linter.all false
namespace Go.Proofs.YtcbjbgaefighcaaGreatDoor
open Go Go.Ax Go.Proofs
def K6 (s:Stmt):Nat:=(Jj s).depth
theorem OG:∀(l:List Stmt) (m:Siz),m.depth≤(Z9 m l).depth∧∀c∈l,1+K6 c≤(Z9 m l).depth
 |[],m=>⟨fG _,fun _ h=>(by cases h)⟩
 |x::l,m=>by
  obtain⟨h1,h2⟩:=OG l (m.inn (Jj x))
  have h3:(m.inn (Jj x)).depth=max m.depth (1+(Jj x).depth):=rfl
  simp only[Z9]
  refine⟨by omega,fun c hc=> ?_⟩
  rcases dT.1 hc with rfl|hc
  ·simp only[K6];omega
  ·exact h2 c hc
theorem F1 {k:Int}{n:Bs}(h:(k=1∨k=2)→n.length≤16):(Yt k n).length≤23:=by
 unfold Yt
 by_cases h1:k=1
 ·have:=h (.inl h1);rw[fC h1];simp;omega
 rw[fD h1]
 by_cases h2:k=2
 ·have:=h (.inr h2);rw[fC h2];simp;omega
 rw[fD h2]
 split
 ·simp
 split
 ·simp
 split
 ·simp
 ·simp
theorem TA {d:Nat}{l:List Stmt}:(Zu d l).length=(l.map fun s=>(Vq d s).length).sum:=by rw[OE,Xe]
theorem EQ:∀(s:Stmt) (d:Nat),Uq s=true→(Vq d s).length≤(100+4*(d+K6 s))*YE s:=by
 intro s
 induction hn:SizeOf.sizeOf s using Nat.strongRecOn generalizing s with
 |_ sz ih=>
 intro d hwf
 obtain⟨k,n,v,b,e⟩:=s
 simp only[Uq,cD]at hwf
 obtain⟨⟨⟨h1,h2⟩,h3⟩,h4⟩:=hwf
 have hv:=LL v h2
 have hdep:K6 (.mk k n v b e)=(Z9 (Z9 (Siz.inn ⟨1,1,false⟩ (Z8 v)) b) e).depth:=rfl
 obtain⟨p1,p2⟩:=OG e (Z9 (Siz.inn ⟨1,1,false⟩ (Z8 v)) b)
 obtain⟨p3,p4⟩:=OG b (Siz.inn ⟨1,1,false⟩ (Z8 v))
 rw[←hdep]at p1 p2
 generalize hK:100+4*(d+K6 (.mk k n v b e))=K
 have hd3:4*d+100≤K:=by omega
 have sub:∀l:List Stmt,UX l=true→(∀c∈l,1+K6 c≤K6 (.mk k n v b e)∧SizeOf.sizeOf c<sz)→(Zu (d+1) l).length≤K*Jd YE l:=fun l hl hc=>by
  rw[TA,Jd,←H6]
  refine VG fun c hcm=> ?_
  obtain⟨q1,q2⟩:=hc c hcm
  have:=ih _ q2 c rfl (d+1) (by rw[Wz]at hl;exact cH.1 hl c hcm)
  exact fI this (fF _ (by omega))
 have hb:=sub b h3 fun c hc=>⟨by have:=p4 c hc;omega,by have:=cY hc;rw[←hn];simp only[Stmt.mk.sizeOf_spec];omega⟩
 have he:=sub e h4 fun c hc=>⟨p2 c hc,by have:=cY hc;rw[←hn];simp only[Stmt.mk.sizeOf_spec];omega⟩
 have hname:(k=1∨k=2)→n.length≤16:=fun h=>by
  simp only[Wu,cD]at h1
  have:=h1.1.1.2
  rw[fC h]at this
  exact Qz this
 have hh:=F1 hname
 have hKv:64*YK v≤K*YK v:=fF _ (by omega)
 rw[Ww]
 have hex:K*(1+YK v+Jd YE b+Jd YE e)=K+K*YK v+K*Jd YE b+K*Jd YE e:=by simp only[Nat.mul_add,Nat.mul_one]
 rw[hex]
 simp only[Vq,cC,ZP]
 by_cases hk:k=3∨k=4
 ·rw[fC hk]
  by_cases hel:e.isEmpty=true
  ·rw[fC hel]
   simp only[cC,cE,cL,ZP];omega
  ·rw[fD hel]
   simp only[cC,cE,cL,ZP];omega
 ·rw[fD hk]
  simp only[cE,cL];omega
theorem Md:∀(l:List Stmt) (m:Siz),m.depth≤(Zy m l).depth∧∀s∈l,K6 s≤(Zy m l).depth
 |[],m=>⟨fG _,fun _ h=>(by cases h)⟩
 |x::l,m=>by
  obtain⟨h1,h2⟩:=Md l (m.bes (Jj x))
  have h3:(m.bes (Jj x)).depth=max m.depth (Jj x).depth:=rfl
  show m.depth≤(Zy (m.bes (Jj x)) l).depth∧∀s∈x::l,K6 s≤(Zy (m.bes (Jj x)) l).depth
  refine⟨by omega,fun c hc=> ?_⟩
  rcases dT.1 hc with rfl|hc
  ·simp only[K6];omega
  ·exact h2 c hc
theorem Mf:∀(l:List Func) (m:Siz),m.depth≤(J8 m l).depth∧∀f∈l,∀s∈f.body,K6 s≤(J8 m l).depth
 |[],m=>⟨fG _,fun _ h=>(by cases h)⟩
 |x::l,m=>by
  obtain⟨h1,h2⟩:=Mf l (Zy m x.body)
  obtain⟨h3,h4⟩:=Md x.body m
  show m.depth≤(J8 (Zy m x.body) l).depth∧∀f∈x::l,∀s∈f.body,K6 s≤(J8 (Zy m x.body) l).depth
  refine⟨by omega,fun f hf=> ?_⟩
  rcases dT.1 hf with rfl|hf
  ·intro s hs;have:=h4 s hs;omega
  ·exact h2 f hf
theorem OR:∀(l:List Func) (m:Siz),(J8 m l).nodes=m.nodes+(l.map fun f=>Jd YE f.body).sum
 |[],m=>rfl
 |x::l,m=>by
  show(J8 (Zy m x.body) l).nodes=_
  rw[OR l,IU]
  simp only[cJ,List.sum_cons];omega
theorem Sj:∀l:List Func,(l.map fun f=>200+300*Jd YE f.body).sum=l.length*200+300*(l.map fun f=>Jd YE f.body).sum
 |[]=>rfl
 |a::l=>by
  have:=Sj l
  simp only[cJ,List.sum_cons,cE]
  omega
theorem TB {l:List Func}(h:Us l=true)(hs:JZ l=true):(VD l).length≤1000000:=by
 simp only[JZ,Siz.small,cD,dZ,cH]at hs
 obtain⟨⟨hp,⟨⟨hn,hd⟩,_⟩⟩,hlen⟩:=hs
 rw[OR]at hn
 rw[VD,Xe]
 have h1:(l.map fun f=>(O4 f).length).sum≤(l.map fun f=>200+300*Jd YE f.body).sum:=VG fun f hf=>by
  have hw:=cH.1 h f hf
  simp only[cD]at hw
  have n1:=Qz hw.1.1
  have n2:=hp f hf
  have n3:=WD (sep:=[44,32]) (l:=f.params)
  have n4:(f.params.map fun t=>t.length+[(44:UInt8),32].length).sum≤(f.params.map fun _=>18).sum:=VG fun p hp=>by
   have:=Qz (cH.1 hw.1.2 p hp)
   simp only[cE,cL];omega
  rw[YY]at n4
  have n5:(Zu 1 f.body).length≤300*Jd YE f.body:=by
   rw[TA,Jd,←H6]
   refine VG fun s hs'=> ?_
   have q1:=EQ s 1 (by have:=hw.2;rw[Wz]at this;exact cH.1 this s hs')
   have q2:=(Mf l ⟨0,0,false⟩).2 f hf s hs'
   exact fI q1 (fF _ (by omega))
  have n6:VL.length=4:=rfl
  simp only[O4,cC,cE,cL];omega
 have h2:=Sj l
 simp only[lN]at hn
 omega
theorem ET {l:Loc}(h:Vm l=true)(hl:l.inv.length≤16):(XB l).length≤1000:=by
 simp only[Vm,cD]at h
 have n1:=Qz h.1.1.1
 have n2:=Kz h.1.2 hl
 have n3:=JU h.2
 have n4:(X2 l.kind).length≤10:=by
  unfold X2
  split
  ·simp [Zq]
  ·split <;> simp [YT]
 have n5:=VJ (is:= !l.inv.isEmpty) (w:=Ua) (t:=Yq l.inv)
 have n6:=VJ (is:=l.rate !=0) (w:=YF) (t:=Lib.itoa l.rate)
 have n7:Ua.length=3:=rfl
 have n8:YF.length=4:=rfl
 have n9:JD.length=3:=rfl
 simp only[XB,cC,cE,cL];omega
theorem ER {p:Proc}(h:YG p=true)(hf:Xu p=true):(Ue p).length≤100000000:=by
 simp only[YG,cD]at h
 simp only[Xu,cD,dZ]at hf
 have n1:=Qz h.1.1.1
 have n2:=Qz h.1.1.2
 have n3:(p.locs.flatMap XB).length≤p.locs.length*1000:=by
  rw[Xe,←YY]
  exact VG fun l hl=>ET (cH.1 h.1.2 l hl) (by have:=cH.1 hf.1.2 l hl;simpa using this)
 have n4:(p.edges.flatMap Vi).length≤p.edges.length*1000000:=by
  rw[Xe,←YY]
  exact VG fun l hl=>TC (cH.1 h.2 l hl) (cH.1 hf.2 l hl)
 have n5:ZQ.length=7:=rfl
 have n6:V1.length=4:=rfl
 simp only[Ue,cC,cE,cL];omega
theorem EO {v:Var}(h:W5 v=true):(UH v).length≤100:=by
 simp only[W5,cD]at h
 have n1:=Qz h.1
 have n2:=JU h.2.1;have n3:=JU h.2.2.1;have n4:=JU h.2.2.2
 have n5:VE.length=3:=rfl
 have n6:M2.length=2:=rfl
 simp only[UH,cC,cE,cL];omega
theorem F2 {c:Chan}(h:Ob c=true):(Vb c).length≤100:=by
 have n1:=Qz h
 have n2:J7.length=4:=rfl
 have n3:(if c.broadcast then Jr++[32]else[]).length≤10:=by split <;> simp [Jr]
 have n4:(if c.urgent then Zq++[32]else[]).length≤7:=by split <;> simp [Zq]
 simp only[Vb,cC,cE,cL];omega
theorem TD {l:List Bs}(h:l.all Qe=true)(hl:l.length≤8):(XT l).length≤200∧(Lib.join l [44,32]).length≤200:=by
 have n3:=WD (sep:=[44,32]) (l:=l)
 have n4:(l.map fun t=>t.length+[(44:UInt8),32].length).sum≤(l.map fun _=>18).sum:=VG fun p hp=>by
  have:=Qz (cH.1 h p hp)
  simp only[cE,cL];omega
 rw[YY]at n4
 refine⟨?_,by omega⟩
 have n5:Kw.length=5:=rfl
 unfold XT
 split
 ·simp
 ·simp only[cC,cE,cL];omega
theorem ES {m:Model}(h:WQ m=true)(hf:Ub m=true):(X0 m).length≤1000000000:=by
 simp only[WQ,cD]at h
 simp only[Ub,cD,dZ]at hf
 have n1:=Qz h.1.1.1.1.1
 have n2:=(TD h.1.1.1.1.2 hf.1.1.1.1.1).1
 have n3:(m.vars.flatMap UH).length≤m.vars.length*100:=by
  rw[Xe,←YY]
  exact VG fun l hl=>EO (cH.1 h.1.1.1.2 l hl)
 have n4:(m.chans.flatMap Vb).length≤m.chans.length*100:=by
  rw[Xe,←YY]
  exact VG fun l hl=>F2 (cH.1 h.1.1.2 l hl)
 have n5:=TB h.1.2 hf.1.1.2
 have n6:(m.procs.flatMap Ue).length≤m.procs.length*100000000:=by
  rw[Xe,←YY]
  exact VG fun l hl=>ER (cH.1 h.2 l hl) (cH.1 hf.2 l hl)
 have n7:UI.length=5:=rfl
 simp only[X0,cC,cE,cL];omega
theorem jZ {C:Cx}{t:Bool}{a b:LC}{s:List Fr}{env:Qo}{ds:List QU}{A:Q3}(M:KS)(h1:C.cd (.raw (.bool t)) a b (.post M::s) env ds A)(h2:∀env ds A,M env ds A→C.ex .normal s env ds A):C.cd (.raw (.bool t)) a b s env ds A:=by
 cases t with
 |true=>
  rw[SO]at h1⊢
  refine Vz a _ _ (fun e env ds A h=> ?_) env ds A h1
  cases e with
  |normal=>exact h2 env ds A h
  |exit j=>exact h
  |ret=>exact h
 |false=>
  rw[Rm]at h1⊢
  refine Vz b _ _ (fun e env ds A h=> ?_) env ds A h1
  cases e with
  |normal=>exact h2 env ds A h
  |exit j=>exact h
  |ret=>exact h
theorem MD {l:List Bs}:Lib.join l []=l.flatten:=by
 cases l with
 |nil=>rfl
 |cons a l=>rw[Lib.join_cons];simp [Lib.joinTail]
section
variable (G:Nat→Option (List AV))
theorem n14 (hG:Gl G)(m:Model){A:Q3}(hm:LtM m):Qu Tryz.prog G 14 [.agg m.cells] A (.tuple [.str (if Vo m=0 then X0 m else[]),i64 (Vo m)]) A:=by
 have h16:=fun A=>N0 G m (A:=A) hm
 have hmc:Model.cells m=[.str m.name,.slice 1 m.clocks.length (m.clocks.flatMap Zl) none,.slice 4 m.vars.length (m.vars.flatMap Var.cells) none,.slice 3 m.chans.length (m.chans.flatMap Chan.cells) none,.slice 3 m.funcs.length (m.funcs.flatMap Func.cells) none,.slice 4 m.procs.length (m.procs.flatMap Proc.cells) none]:=rfl
 refine Q4 l14 (fE rfl) ?_
 unfold C14
 rw[hmc]at h16⊢
 refine Qd (fun env ds B=>∃d,env 1=.ptr d 0∧ds=[]∧A d=none∧B=A.upd d (some (.cells [.str m.name,.slice 1 m.clocks.length (m.clocks.flatMap Zl) none,.slice 4 m.vars.length (m.vars.flatMap Var.cells) none,.slice 3 m.chans.length (m.chans.flatMap Chan.cells) none,.slice 3 m.funcs.length (m.funcs.flatMap Func.cells) none,.slice 4 m.procs.length (m.procs.flatMap Proc.cells) none]))) ?_ ?_
 ·simp only[Q1,seval]
  intro d hd
  exact⟨d,rfl,hd,rfl⟩
 rintro env ds B ⟨d,e1,rfl,hd,rfl⟩
 have hdA:(A.upd d (some (.cells [.str m.name,.slice 1 m.clocks.length (m.clocks.flatMap Zl) none,.slice 4 m.vars.length (m.vars.flatMap Var.cells) none,.slice 3 m.chans.length (m.chans.flatMap Chan.cells) none,.slice 3 m.funcs.length (m.funcs.flatMap Func.cells) none,.slice 4 m.procs.length (m.procs.flatMap Proc.cells) none]))) d=_:=Q0 ..
 have unO:∀B,Z7 (A.upd d (some (.cells [.str m.name,.slice 1 m.clocks.length (m.clocks.flatMap Zl) none,.slice 4 m.vars.length (m.vars.flatMap Var.cells) none,.slice 3 m.chans.length (m.chans.flatMap Chan.cells) none,.slice 3 m.funcs.length (m.funcs.flatMap Func.cells) none,.slice 4 m.procs.length (m.procs.flatMap Proc.cells) none]))) B→Z7 A B:=fun B h=>h.unset hd
 generalize A.upd d (some (.cells [.str m.name,.slice 1 m.clocks.length (m.clocks.flatMap Zl) none,.slice 4 m.vars.length (m.vars.flatMap Var.cells) none,.slice 3 m.chans.length (m.chans.flatMap Chan.cells) none,.slice 3 m.funcs.length (m.funcs.flatMap Func.cells) none,.slice 4 m.procs.length (m.procs.flatMap Proc.cells) none]))=A1 at*
 by_cases hform:Vo m=0
 case neg=>
  rw[fD hform]
  simp only[e1,hdA,Q1,seval]
  refine Q2 (h16 _) ?_
  simp only[Q1,seval]
  exact⟨fun h=>absurd h hform,fun _=>Qb rfl (unO _ (.refl _))⟩
 rw[fC hform]
 refine Qd (fun env ds B=>env 1=.ptr d 0∧ds=[]∧A1=B) ?_ ?_
 ·simp only[e1,hdA,Q1,seval]
  refine Q2 (h16 _) ?_
  rw[hform]
  simp only[e1,Q1,seval]
 rintro env ds _ ⟨e1,rfl,rfl⟩
 rw[hform]
 have hwf:WQ m=true∧Ub m=true:=by
  unfold Vo at hform
  by_cases h1:WQ m=true
  ·rw[fC h1]at hform
   by_cases h2:Ub m=true
   ·exact⟨h1,h2⟩
   ·rw[fD h2]at hform;exact absurd hform (by decide)
  ·rw[fD h1]at hform;exact absurd hform (by decide)
 have hl:=ES hwf.1 hwf.2
 obtain⟨hw,hf⟩:=hwf
 clear h16 hform
 obtain⟨nm,cl,vs,ch,fs,ps⟩:=m
 obtain⟨y1,y2,y3,y4,y5,y6,y7,y8,y9,y10,y11,y12⟩:=hm
 simp only[WQ,cD]at hw
 simp only[Ub,cD,dZ]at hf
 simp only at y1 y2 y3 y4 y5 y6 y7 y8 y9 y10 y11 y12 hdA
 obtain⟨⟨⟨⟨⟨w1,w2⟩,hV⟩,hC⟩,hF⟩,hP⟩:=hw
 obtain⟨⟨⟨⟨⟨f1,f2⟩,f3⟩,f4⟩,f5⟩,fP⟩:=hf
 have n0:=Qz w1
 have ckl:=TD w2 f1
 have htM:X0 ⟨nm,cl,vs,ch,fs,ps⟩=UI++[32]++nm++[59,10]++XT cl++vs.flatMap UH++ch.flatMap Vb++VD fs++ps.flatMap Ue:=rfl
 rw[htM]at hl⊢
 clear htM
 have htM:True:=trivial
 refine Qd (fun env ds B=>∃b,env 1=.ptr d 0∧env 5=.ptr b 0∧ds=[]∧Bd A1 b [] B) ?_ ?_
 ·simp only[e1,Q1,seval]
  intro b hb ho
  exact⟨b,rfl,HV hb ho⟩
 rintro env ds B ⟨b,e1,e5,rfl,h⟩
 refine Qd (fun env ds B=>env 1=.ptr d 0∧env 5=.ptr b 0∧ds=[]∧Bd A1 b (UI++[32]++nm++[59,10]) B) ?_ ?_
 ·have hdB:=h.ovr.keep hdA
  simp only[e1,e5,hdB,Q1,seval]
  refine⟨by omega,by omega,Qk (U1 G h (by simp;omega)) ?_⟩
  rintro o B' ⟨rfl,h⟩
  simp only[e1,e5,Q1,seval]
  simpa[UI]using h
 clear h
 rintro env ds B ⟨e1,e5,rfl,h⟩
 generalize hS0:UI++[32]++nm++[59,10]=S0 at*
 have hS0l:S0.length≤40:=by rw[←hS0];simp [UI];omega
 refine Qd (fun env ds B=>env 1=.ptr d 0∧env 5=.ptr b 0∧ds=[]∧Bd A1 b (S0++XT cl) B) ?_ ?_
 ·have hdB:=h.ovr.keep hdA
  simp only[e1,e5,hdB,Q1,seval]
  refine⟨fun hp=> ?_,fun hp=> ?_⟩
  ·have hb:cl.isEmpty=false:=by cases cl with|nil=>simp at hp|cons=>rfl
   refine Q2 (f42 G cl [44,32] rfl rfl _ (by omega) (by omega)) ?_
   simp only[e1,e5,Q1,seval]
   refine⟨by omega,by omega,Qk (U1 G h (by simp;omega)) ?_⟩
   rintro o B' ⟨rfl,h⟩
   simp only[e1,e5,Q1,seval]
   simpa[XT,hb,Kw]using h
  ·have hb:cl.isEmpty=true:=by cases cl with|nil=>rfl|cons a b=>exact absurd (by simp) hp
   simpa[XT,hb]using h
 clear h
 rintro env ds B ⟨e1,e5,rfl,h⟩
 generalize hS1:S0++XT cl=S1 at*
 refine Qd (fun env ds B=>env 1=.ptr d 0∧env 5=.ptr b 0∧ds=[]∧Bd A1 b (S1++vs.flatMap UH) B) ?_ ?_
 ·have hdB:=h.ovr.keep hdA
  simp only[e1,e5,hdB,Q1,seval]
  refine Qv (fun k env ds B=>∃pre post,vs=pre++post∧k=post.length∧env 1=.ptr d 0∧env 5=.ptr b 0∧env 35=.slice 4 vs.length (vs.flatMap Var.cells) none∧env 36=i64 vs.length∧env 37=i64 pre.length∧ds=[]∧Bd A1 b (S1++pre.flatMap UH) B) vs.length
   ⟨[],vs,rfl,rfl,e1,e5,rfl,rfl,rfl,rfl,by simpa using h⟩ ?_
  clear h hdB e1 e5
  rintro k env ds B ⟨pre,post,hpp,rfl,e1,e5,eA,eB,eC,rfl,h⟩
  have hl2:(pre.length:Int)+post.length=vs.length:=by rw[hpp];simp
  cases post with
  |nil=>
   have hlt:¬((pre.length:Int)<vs.length):=by simp at hl2;omega
   have hpl:vs=pre:=by rw[hpp];simp
   simp only[e1,e5,eA,eB,eC,Q1,seval]
   refine⟨fun h=>absurd h hlt,fun _=>by rw[hpl];exact h⟩
  |cons x post=>
   have hlt:((pre.length:Int)<vs.length):=by simp at hl2;omega
   have e2:IntKind.i64.wrap ((pre.length:Int)+1)=((pre++[x]).length:Nat):=by rw[Qg (by omega) (by omega)];simp
   have hmem:x∈vs:=by rw[hpp];simp
   have hle:(S1++pre.flatMap UH).length+(UH x).length≤1000000000:=by
    have:(S1++vs.flatMap UH).length≤1000000000:=by simp only[cC]at hl⊢;omega
    rw[hpp]at this
    simp only[cC,List.flatMap_append,dD]at this⊢;omega
   have next:∀B',Bd A1 b (S1++pre.flatMap UH++UH x) B'→Bd A1 b (S1++(pre++[x]).flatMap UH) B':=fun B' h=>by
    simpa[cU]using h
   generalize hS:S1++pre.flatMap UH=S at*
   simp only[e1,e5,eA,eB,eC,Q1,seval]
   refine⟨fun _=>⟨hlt,?_⟩,fun h=>absurd hlt h⟩
   have hd:(vs.flatMap Var.cells).drop (pre.length*4)=Var.cells x++post.flatMap Var.cells:=by rw[hpp,Zg (sz:=4) (fun _=>rfl)];simp
   rw[hd,dM (show(Var.cells x).length=4 from rfl)]
   refine⟨by simp [Var.cells],fun q hq=> ?_⟩
   have hw:=cH.1 hV x hmem
   simp only[W5,cD]at hw
   have n1:=Qz hw.1
   obtain⟨nv,lo,hi,iv⟩:=x
   simp only at hw n1
   have m1:=JU hw.2.1;have m2:=JU hw.2.2.1;have m3:=JU hw.2.2.2
   have htV:UH ⟨nv,lo,hi,iv⟩=VE++[32]++nv++[32]++M2++[32]++Lib.itoa lo++[46,46]++Lib.itoa hi++[32,61,32]++Lib.itoa iv++[59,10]:=rfl
   rw[htV]at hle next
   simp only[Var.cells,Q1,seval]
   have hAq:=h.ovr.gone hq
   have h:=h.base hq (cs:=[.str nv,i64 lo,i64 hi,i64 iv])
   have un:∀{bs B},Bd (A1.upd q (some (.cells [.str nv,i64 lo,i64 hi,i64 iv]))) b bs B→Bd A1 b bs B:=fun h=>h.un hAq
   have hq1:(A1.upd q (some (.cells [.str nv,i64 lo,i64 hi,i64 iv]))) q=some (.cells [.str nv,i64 lo,i64 hi,i64 iv]):=Q0 ..
   generalize B.upd q (some (.cells [.str nv,i64 lo,i64 hi,i64 iv]))=B at*
   generalize A1.upd q (some (.cells [.str nv,i64 lo,i64 hi,i64 iv]))=A2 at*
   have hqB:=h.ovr.keep hq1
   refine QV (QB (by simp;omega)) ?_
   simp only[hqB,Q1,seval]
   refine QV (QB (by simp;omega)) ?_
   simp only[hqB,Q1,seval]
   refine Q2 (M4 G hG lo _ hw.2.1) ?_
   simp only[hqB,QW,Q1,seval]
   refine QV (QB (by simp;omega)) ?_
   simp only[hqB,Q1,seval]
   refine QV (QB (by simp;omega)) ?_
   simp only[hqB,Q1,seval]
   refine Q2 (M4 G hG hi _ hw.2.2.1) ?_
   simp only[hqB,QW,Q1,seval]
   refine QV (QB (by simp;omega)) ?_
   simp only[hqB,Q1,seval]
   refine QV (QB (by simp;omega)) ?_
   simp only[hqB,Q1,seval]
   refine Q2 (M4 G hG iv _ hw.2.2.2) ?_
   simp only[hqB,QW,Q1,seval]
   refine QV (QB (by simp;omega)) ?_
   simp only[Q1,seval]
   refine QV (QB (by simp;omega)) ?_
   simp only[e5,Q1,seval]
   refine Qk (U1 G h (by simp [VE,M2]at hle⊢;omega)) ?_
   rintro o B ⟨rfl,h⟩
   simp only[e1,e5,eA,eB,eC,e2,QW,Q1,seval]
   exact⟨post.length,by simp,pre++[⟨nv,lo,hi,iv⟩],post,by simp [hpp],rfl,rfl,next _ (by simpa[cU,VE,M2]using un h)⟩
 clear h
 rintro env ds B ⟨e1,e5,rfl,h⟩
 generalize hS2:S1++vs.flatMap UH=S2 at*
 refine Qd (fun env ds B=>env 1=.ptr d 0∧env 5=.ptr b 0∧ds=[]∧Bd A1 b (S2++ch.flatMap Vb) B) ?_ ?_
 ·have hdB:=h.ovr.keep hdA
  simp only[e1,e5,hdB,Q1,seval]
  refine Qv (fun k env ds B=>∃pre post,ch=pre++post∧k=post.length∧env 1=.ptr d 0∧env 5=.ptr b 0∧env 63=.slice 3 ch.length (ch.flatMap Chan.cells) none∧env 64=i64 ch.length∧env 65=i64 pre.length∧ds=[]∧Bd A1 b (S2++pre.flatMap Vb) B) ch.length
   ⟨[],ch,rfl,rfl,e1,e5,rfl,rfl,rfl,rfl,by simpa using h⟩ ?_
  clear h hdB e1 e5
  rintro k env ds B ⟨pre,post,hpp,rfl,e1,e5,eA,eB,eC,rfl,h⟩
  have hl2:(pre.length:Int)+post.length=ch.length:=by rw[hpp];simp
  cases post with
  |nil=>
   have hlt:¬((pre.length:Int)<ch.length):=by simp at hl2;omega
   have hpl:ch=pre:=by rw[hpp];simp
   simp only[e1,e5,eA,eB,eC,Q1,seval]
   refine⟨fun h=>absurd h hlt,fun _=>by rw[hpl];exact h⟩
  |cons x post=>
   have hlt:((pre.length:Int)<ch.length):=by simp at hl2;omega
   have e2:IntKind.i64.wrap ((pre.length:Int)+1)=((pre++[x]).length:Nat):=by rw[Qg (by omega) (by omega)];simp
   have hmem:x∈ch:=by rw[hpp];simp
   have hle:(S2++pre.flatMap Vb).length+(Vb x).length≤1000000000:=by
    have:(S2++ch.flatMap Vb).length≤1000000000:=by simp only[cC]at hl⊢;omega
    rw[hpp]at this
    simp only[cC,List.flatMap_append,dD]at this⊢;omega
   have next:∀B',Bd A1 b (S2++pre.flatMap Vb++Vb x) B'→Bd A1 b (S2++(pre++[x]).flatMap Vb) B':=fun B' h=>by
    simpa[cU]using h
   generalize hS:S2++pre.flatMap Vb=S at*
   simp only[e1,e5,eA,eB,eC,Q1,seval]
   refine⟨fun _=>⟨hlt,?_⟩,fun h=>absurd hlt h⟩
   have hd:(ch.flatMap Chan.cells).drop (pre.length*3)=Chan.cells x++post.flatMap Chan.cells:=by rw[hpp,Zg (sz:=3) (fun _=>rfl)];simp
   rw[hd,dM (show(Chan.cells x).length=3 from rfl)]
   refine⟨by simp [Chan.cells],fun q hq=> ?_⟩
   have hw:=cH.1 hC x hmem
   have n1:=Qz (show Qe x.name=true from hw)
   obtain⟨nc,bb,uu⟩:=x
   simp only at n1
   have htC:Vb ⟨nc,bb,uu⟩=(if bb then Jr++[32]else[])++(if uu then Zq++[32]else[])++J7++[32]++nc++[59,10]:=rfl
   rw[htC]at hle next
   simp only[Chan.cells,Q1,seval]
   have hAq:=h.ovr.gone hq
   have h:=h.base hq (cs:=[.str nc,bo bb,bo uu])
   have un:∀{bs B},Bd (A1.upd q (some (.cells [.str nc,bo bb,bo uu]))) b bs B→Bd A1 b bs B:=fun h=>h.un hAq
   have hq1:(A1.upd q (some (.cells [.str nc,bo bb,bo uu]))) q=some (.cells [.str nc,bo bb,bo uu]):=Q0 ..
   generalize B.upd q (some (.cells [.str nc,bo bb,bo uu]))=B at*
   generalize A1.upd q (some (.cells [.str nc,bo bb,bo uu]))=A2 at*
   have hqB:=h.ovr.keep hq1
   refine jZ (fun env ds B=>env 1=.ptr d 0∧env 5=.ptr b 0∧env 63=.slice 3 ch.length (ch.flatMap Chan.cells) none∧env 64=i64 ch.length∧env 65=i64 pre.length∧env 9=.ptr q 0∧ds=[]∧Bd A2 b (S++(if bb then Jr++[32]else[])) B) ?_ ?_
   ·cases bb with
    |false=>
     simp only[hqB,e1,e5,eA,eB,eC,Q1,seval]
     simpa using h
    |true=>
     simp only[hqB,e1,e5,eA,eB,eC,Q1,seval]
     refine Qk (U1 G h (by simp [Jr]at hle⊢;omega)) ?_
     rintro o B' ⟨rfl,h⟩
     simp only[e1,e5,eA,eB,eC,Q1,seval]
     simpa[Jr]using h
   clear h hqB e1 e5 eA eB eC
   rintro env ds B ⟨e1,e5,eA,eB,eC,eq,rfl,h⟩
   have hqB:=h.ovr.keep hq1
   refine Ny (Qd (fun env ds B=>env 1=.ptr d 0∧env 5=.ptr b 0∧env 63=.slice 3 ch.length (ch.flatMap Chan.cells) none∧env 64=i64 ch.length∧env 65=i64 pre.length∧env 9=.ptr q 0∧ds=[]∧Bd A2 b (S++(if bb then Jr++[32]else[])++(if uu then Zq++[32]else[])) B) ?_ ?_)
   ·cases uu with
    |false=>
     simp only[hqB,e1,e5,eA,eB,eC,eq,Q1,seval]
     simpa using h
    |true=>
     simp only[hqB,e1,e5,eA,eB,eC,eq,Q1,seval]
     refine Qk (U1 G h (by simp [Zq]at hle⊢;omega)) ?_
     rintro o B' ⟨rfl,h⟩
     simp only[e1,e5,eA,eB,eC,eq,Q1,seval]
     simpa[Zq]using h
   clear h hqB e1 e5 eA eB eC
   rintro env ds B ⟨e1,e5,eA,eB,eC,eq,rfl,h⟩
   have hqB:=h.ovr.keep hq1
   simp only[hqB,eq,e5,Q1,seval]
   refine⟨by omega,by omega,?_⟩
   refine Qk (U1 G h (by simp only[J7,cC,cE,cL]at hle⊢;omega)) ?_
   rintro o B ⟨rfl,h⟩
   simp only[e1,e5,eA,eB,eC,e2,QW,Q1,seval]
   exact⟨post.length,by simp,pre++[⟨nc,bb,uu⟩],post,by simp [hpp],rfl,rfl,next _ (by simpa[cU,J7]using un h)⟩
 clear h
 rintro env ds B ⟨e1,e5,rfl,h⟩
 generalize hS3:S2++ch.flatMap Vb=S3 at*
 refine Qd (fun env ds B=>env 1=.ptr d 0∧env 5=.ptr b 0∧env 10=.str (VD fs)∧ds=[]∧Bd A1 b S3 B) ?_ ?_
 ·have hdB:=h.ovr.keep hdA
  simp only[e1,e5,hdB,Q1,seval]
  refine Q2 (k44 G hG fs hF f4 y9 y8 y10 (by have:=TB hF f4;omega)) ?_
  simp only[e1,e5,Q1,seval]
  exact h
 clear h
 rintro env ds B ⟨e1,e5,e10,rfl,h⟩
 refine Qd (fun env ds B=>env 1=.ptr d 0∧env 5=.ptr b 0∧ds=[]∧Bd A1 b (S3++VD fs) B) ?_ ?_
 ·simp only[e1,e5,e10,Q1,seval]
  refine Qk (U1 G h (by simp only[cC]at hl;omega)) ?_
  rintro o B' ⟨rfl,h⟩
  simp only[e1,e5,Q1,seval]
  exact h
 clear h
 rintro env ds B ⟨e1,e5,rfl,h⟩
 generalize hS4:S3++VD fs=S4 at*
 refine Qd (fun env ds B=>env 1=.ptr d 0∧env 5=.ptr b 0∧ds=[]∧Bd A1 b (S4++ps.flatMap Ue) B) ?_ ?_
 ·have hdB:=h.ovr.keep hdA
  simp only[e1,e5,hdB,Q1,seval]
  refine Qv (fun k env ds B=>∃pre post,ps=pre++post∧k=post.length∧env 1=.ptr d 0∧env 5=.ptr b 0∧env 90=.slice 4 ps.length (ps.flatMap Proc.cells) none∧env 91=i64 ps.length∧env 92=i64 pre.length∧ds=[]∧Bd A1 b (S4++pre.flatMap Ue) B) ps.length
   ⟨[],ps,rfl,rfl,e1,e5,rfl,rfl,rfl,rfl,by simpa using h⟩ ?_
  clear h hdB e1 e5
  rintro k env ds B ⟨pre,post,hpp,rfl,e1,e5,eA,eB,eC,rfl,h⟩
  have hl2:(pre.length:Int)+post.length=ps.length:=by rw[hpp];simp
  cases post with
  |nil=>
   have hlt:¬((pre.length:Int)<ps.length):=by simp at hl2;omega
   have hpl:ps=pre:=by rw[hpp];simp
   simp only[e1,e5,eA,eB,eC,Q1,seval]
   refine⟨fun h=>absurd h hlt,fun _=>by rw[hpl];exact h⟩
  |cons x post=>
   have hlt:((pre.length:Int)<ps.length):=by simp at hl2;omega
   have e2:IntKind.i64.wrap ((pre.length:Int)+1)=((pre++[x]).length:Nat):=by rw[Qg (by omega) (by omega)];simp
   have hmem:x∈ps:=by rw[hpp];simp
   have hle:(S4++pre.flatMap Ue).length+(Ue x).length≤1000000000:=by
    have:(S4++ps.flatMap Ue).length≤1000000000:=by simp only[cC]at hl⊢;omega
    rw[hpp]at this
    simp only[cC,List.flatMap_append,dD]at this⊢;omega
   have next:∀B',Bd A1 b (S4++pre.flatMap Ue++Ue x) B'→Bd A1 b (S4++(pre++[x]).flatMap Ue) B':=fun B' h=>by
    simpa[cU]using h
   generalize hS:S4++pre.flatMap Ue=S at*
   simp only[e1,e5,eA,eB,eC,Q1,seval]
   refine⟨fun _=>⟨hlt,?_⟩,fun h=>absurd hlt h⟩
   have hd:(ps.flatMap Proc.cells).drop (pre.length*4)=Proc.cells x++post.flatMap Proc.cells:=by rw[hpp,Zg (sz:=4) (fun _=>rfl)];simp
   rw[hd,dM (show(Proc.cells x).length=4 from rfl)]
   refine⟨by simp [Proc.cells],fun q hq=> ?_⟩
   have hw:=cH.1 hP x hmem
   have hf:=cH.1 fP x hmem
   have hlt':=y12 x hmem
   obtain⟨np,ip,ls,es⟩:=x
   simp only[YG,cD]at hw
   simp only[Xu,cD,dZ]at hf
   have n1:=Qz hw.1.1.1;have n2:=Qz hw.1.1.2
   have htP:Ue ⟨np,ip,ls,es⟩=ZQ++[32]++np++[32]++V1++[32]++ip++[32,123,10]++ls.flatMap XB++es.flatMap Vi++[125,10]:=rfl
   rw[htP]at hle next
   simp only[Proc.cells,Qy,Q1,seval]
   have hAq:=h.ovr.gone hq
   have h:=h.base hq (cs:=[.str np,.str ip,.slice 4 ls.length (ls.flatMap Loc.cells) none,.slice 13 es.length (es.flatMap Edge.cells) none])
   have un:∀{bs B},Bd (A1.upd q (some (.cells [.str np,.str ip,.slice 4 ls.length (ls.flatMap Loc.cells) none,.slice 13 es.length (es.flatMap Edge.cells) none]))) b bs B→Bd A1 b bs B:=fun h=>h.un hAq
   have hq1:(A1.upd q (some (.cells [.str np,.str ip,.slice 4 ls.length (ls.flatMap Loc.cells) none,.slice 13 es.length (es.flatMap Edge.cells) none]))) q=some (.cells [.str np,.str ip,.slice 4 ls.length (ls.flatMap Loc.cells) none,.slice 13 es.length (es.flatMap Edge.cells) none]):=Q0 ..
   generalize B.upd q (some (.cells [.str np,.str ip,.slice 4 ls.length (ls.flatMap Loc.cells) none,.slice 13 es.length (es.flatMap Edge.cells) none]))=B at*
   generalize A1.upd q (some (.cells [.str np,.str ip,.slice 4 ls.length (ls.flatMap Loc.cells) none,.slice 13 es.length (es.flatMap Edge.cells) none]))=A2 at*
   have hqB:=h.ovr.keep hq1
   have j1:Lib.join (ls.map XB) []=ls.flatMap XB:=by rw[MD,List.flatMap_def]
   have j2:Lib.join (es.map Vi) []=es.flatMap Vi:=by rw[MD,List.flatMap_def]
   obtain⟨z1,z2,z3,z4,z5,z6⟩:=hlt'
   simp only at z6
   have k45:=fun A=>kJ G l45 rfl (A:=A) (xs:=ls) (enc:=Loc.cells) (tx:=XB) (fn:=46) (sep:=[]) (t1:=none) (fun _=>rfl) (fun _=>rfl) rfl rfl rfl (by omega) (by rw[j1];simp only[cC]at hle;omega) fun x hx A=>k46 G hG x A (cH.1 hw.1.2 x hx) (by have:=cH.1 hf.1.2 x hx;simpa using this)
   have k47:=fun A=>kJ G l47 rfl (A:=A) (xs:=es) (enc:=Edge.cells) (tx:=Vi) (fn:=48) (sep:=[]) (t1:=none) Edge.cells_len (fun x=>by obtain⟨_,_,_,co,_,_,_,_,_,_⟩:=x;obtain⟨_,_,_,_⟩:=co;rfl) rfl rfl rfl (by omega) (by rw[j2];simp only[cC]at hle;omega) fun x hx A=>k48 G hG x A (cH.1 hw.2 x hx) (cH.1 hf.2 x hx) (z6 x hx)
   rw[j1]at k45
   rw[j2]at k47
   refine QV (QB (by simp;omega)) ?_
   simp only[hqB,Q1,seval]
   refine QV (QB (by simp;omega)) ?_
   simp only[hqB,Q1,seval]
   refine QV (QB (by simp;omega)) ?_
   simp only[hqB,Q1,seval]
   refine QV (QB (by simp;omega)) ?_
   simp only[hqB,Q1,seval]
   refine Q2 (k45 _) ?_
   simp only[hqB,QW,Q1,seval]
   refine QV (QB (by simp at hle⊢;omega)) ?_
   simp only[hqB,Q1,seval]
   refine Q2 (k47 _) ?_
   simp only[hqB,QW,Q1,seval]
   refine QV (QB (by simp at hle⊢;omega)) ?_
   simp only[Q1,seval]
   refine QV (QB (by simp at hle⊢;omega)) ?_
   simp only[e5,Q1,seval]
   refine Qk (U1 G h (by simp [ZQ,V1]at hle⊢;omega)) ?_
   rintro o B ⟨rfl,h⟩
   simp only[e1,e5,eA,eB,eC,e2,QW,Q1,seval]
   exact⟨post.length,by simp,pre++[⟨np,ip,ls,es⟩],post,by simp [hpp],rfl,rfl,next _ (by simpa[cU,ZQ,V1]using un h)⟩
 clear h
 rintro env ds B ⟨e1,e5,rfl,h⟩
 generalize hS5:S4++ps.flatMap Ue=S5 at*
 simp only[e5,Q1,seval]
 refine Q2 (h.string G (by omega)) ?_
 simp only[Q1,seval]
 exact Qb rfl (unO _ h.ovr)
end
end Go.Proofs.YtcbjbgaefighcaaGreatDoor
