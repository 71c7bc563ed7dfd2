/- Part 31 of the proof. -/
import Derived.Test.YtcbjbgaefighcaaGreatDoorT0
import Derived.Test.YtcbjbgaefighcaaGreatDoorT30
set_option linter.all false
namespace Go.Proofs.YtcbjbgaefighcaaGreatDoor
open Go Go.Ax Go.Proofs
def WY (s:Stmt):Nat:=(Jc s).depth
theorem OJ:∀(l:List Stmt) (m:Siz),m.depth≤(Z7 m l).depth∧∀c∈l,1+WY c≤(Z7 m l).depth
 |[],m=>⟨fG _,fun _ h=>(by cases h)⟩
 |x::l,m=>by
  obtain⟨h1,h2⟩:=OJ l (m.inn (Jc x))
  have h3:(m.inn (Jc x)).depth=max m.depth (1+(Jc x).depth):=rfl
  simp only[Z7]
  refine⟨by omega,fun c hc=> ?_⟩
  rcases dT.1 hc with rfl|hc
  ·simp only[WY];omega
  ·exact h2 c hc
theorem GJ {k:Int}{n:Bs}(h:(k=1∨k=2)→n.length≤16):(Ym k n).length≤23:=by
 unfold Ym
 by_cases h1:k=1
 ·have:=h (.inl h1);rw[fC h1];simp;omega
 rw[fD h1]
 by_cases h2:k=2
 ·have:=h (.inr h2);rw[fC h2];simp;omega
 rw[fD h2]
 split
 ·simp
 split
 ·simp
 split
 ·simp
 ·simp
theorem Tm {d:Nat}{l:List Stmt}:(Zo d l).length=(l.map fun s=>(Vk d s).length).sum:=by rw[OG,X4]
theorem Er:∀(s:Stmt) (d:Nat),Uj s=true→(Vk d s).length≤(100+4*(d+WY s))*Yy s:=by
 intro s
 induction hn:SizeOf.sizeOf s using Nat.strongRecOn generalizing s with
 |_ sz ih=>
 intro d hwf
 obtain⟨k,n,v,b,e⟩:=s
 simp only[Uj,cD]at hwf
 obtain⟨⟨⟨h1,h2⟩,h3⟩,h4⟩:=hwf
 have hv:=RV v h2
 have hdep:WY (.mk k n v b e)=(Z7 (Z7 (Siz.inn ⟨1,1,false⟩ (ZH v)) b) e).depth:=rfl
 obtain⟨p1,p2⟩:=OJ e (Z7 (Siz.inn ⟨1,1,false⟩ (ZH v)) b)
 obtain⟨p3,p4⟩:=OJ b (Siz.inn ⟨1,1,false⟩ (ZH v))
 rw[←hdep]at p1 p2
 generalize hK:100+4*(d+WY (.mk k n v b e))=K
 have hd3:4*d+100≤K:=by omega
 have sub:∀l:List Stmt,US l=true→(∀c∈l,1+WY c≤WY (.mk k n v b e)∧SizeOf.sizeOf c<sz)→(Zo (d+1) l).length≤K*J8 Yy l:=fun l hl hc=>by
  rw[Tm,J8,←H8]
  refine Vz fun c hcm=> ?_
  obtain⟨q1,q2⟩:=hc c hcm
  have:=ih _ q2 c rfl (d+1) (by rw[Ws]at hl;exact cH.1 hl c hcm)
  exact fI this (fF _ (by omega))
 have hb:=sub b h3 fun c hc=>⟨by have:=p4 c hc;omega,by have:=cY hc;rw[←hn];simp only[Stmt.mk.sizeOf_spec];omega⟩
 have he:=sub e h4 fun c hc=>⟨p2 c hc,by have:=cY hc;rw[←hn];simp only[Stmt.mk.sizeOf_spec];omega⟩
 have hname:(k=1∨k=2)→n.length≤16:=fun h=>by
  simp only[Wm,cD]at h1
  have:=h1.1.1.2
  rw[fC h]at this
  exact Qy this
 have hh:=GJ hname
 have hKv:64*Vg v≤K*Vg v:=fF _ (by omega)
 rw[Wp]
 have hex:K*(1+Vg v+J8 Yy b+J8 Yy e)=K+K*Vg v+K*J8 Yy b+K*J8 Yy e:=by simp only[Nat.mul_add,Nat.mul_one]
 rw[hex]
 simp only[Vk,cC,ZJ]
 by_cases hk:k=3∨k=4
 ·rw[fC hk]
  by_cases hel:e.isEmpty=true
  ·rw[fC hel]
   simp only[cC,cE,cL,ZJ];omega
  ·rw[fD hel]
   simp only[cC,cE,cL,ZJ];omega
 ·rw[fD hk]
  simp only[cE,cL];omega
theorem Ma:∀(l:List Stmt) (m:Siz),m.depth≤(Zt m l).depth∧∀s∈l,WY s≤(Zt m l).depth
 |[],m=>⟨fG _,fun _ h=>(by cases h)⟩
 |x::l,m=>by
  obtain⟨h1,h2⟩:=Ma l (m.bes (Jc x))
  have h3:(m.bes (Jc x)).depth=max m.depth (Jc x).depth:=rfl
  show m.depth≤(Zt (m.bes (Jc x)) l).depth∧∀s∈x::l,WY s≤(Zt (m.bes (Jc x)) l).depth
  refine⟨by omega,fun c hc=> ?_⟩
  rcases dT.1 hc with rfl|hc
  ·simp only[WY];omega
  ·exact h2 c hc
theorem Mc:∀(l:List Func) (m:Siz),m.depth≤(ZY m l).depth∧∀f∈l,∀s∈f.body,WY s≤(ZY m l).depth
 |[],m=>⟨fG _,fun _ h=>(by cases h)⟩
 |x::l,m=>by
  obtain⟨h1,h2⟩:=Mc l (Zt m x.body)
  obtain⟨h3,h4⟩:=Ma x.body m
  show m.depth≤(ZY (Zt m x.body) l).depth∧∀f∈x::l,∀s∈f.body,WY s≤(ZY (Zt m x.body) l).depth
  refine⟨by omega,fun f hf=> ?_⟩
  rcases dT.1 hf with rfl|hf
  ·intro s hs;have:=h4 s hs;omega
  ·exact h2 f hf
theorem OT:∀(l:List Func) (m:Siz),(ZY m l).nodes=m.nodes+(l.map fun f=>J8 Yy f.body).sum
 |[],m=>rfl
 |x::l,m=>by
  show(ZY (Zt m x.body) l).nodes=_
  rw[OT l,IY]
  simp only[cJ,List.sum_cons];omega
theorem RY:∀l:List Func,(l.map fun f=>200+300*J8 Yy f.body).sum=l.length*200+300*(l.map fun f=>J8 Yy f.body).sum
 |[]=>rfl
 |a::l=>by
  have:=RY l
  simp only[cJ,List.sum_cons,cE]
  omega
theorem Tn {l:List Func}(h:Um l=true)(hs:JW l=true):(Vw l).length≤1000000:=by
 simp only[JW,Siz.small,cD,dZ,cH]at hs
 obtain⟨⟨hp,⟨⟨hn,hd⟩,_⟩⟩,hlen⟩:=hs
 rw[OT]at hn
 rw[Vw,X4]
 have h1:(l.map fun f=>(O8 f).length).sum≤(l.map fun f=>200+300*J8 Yy f.body).sum:=Vz fun f hf=>by
  have hw:=cH.1 h f hf
  simp only[cD]at hw
  have n1:=Qy hw.1.1
  have n2:=hp f hf
  have n3:=Wx (sep:=[44,32]) (l:=f.params)
  have n4:(f.params.map fun t=>t.length+[(44:UInt8),32].length).sum≤(f.params.map fun _=>18).sum:=Vz fun p hp=>by
   have:=Qy (cH.1 hw.1.2 p hp)
   simp only[cE,cL];omega
  rw[YV]at n4
  have n5:(Zo 1 f.body).length≤300*J8 Yy f.body:=by
   rw[Tm,J8,←H8]
   refine Vz fun s hs'=> ?_
   have q1:=Er s 1 (by have:=hw.2;rw[Ws]at this;exact cH.1 this s hs')
   have q2:=(Mc l ⟨0,0,false⟩).2 f hf s hs'
   exact fI q1 (fF _ (by omega))
  have n6:VI.length=4:=rfl
  simp only[O8,cC,cE,cL];omega
 have h2:=RY l
 simp only[lN]at hn
 omega
theorem Eu {l:Loc}(h:VG l=true)(hl:l.inv.length≤16):(XW l).length≤1000:=by
 simp only[VG,cD]at h
 have n1:=Qy h.1.1.1
 have n2:=KA h.1.2 hl
 have n3:=JP h.2
 have n4:(Xo l.kind).length≤10:=by
  unfold Xo
  split
  ·simp [Zl]
  ·split <;> simp [YO]
 have n5:=VE (is:= !l.inv.isEmpty) (w:=Uo) (t:=YQ l.inv)
 have n6:=VE (is:=l.rate !=0) (w:=YX) (t:=Lib.itoa l.rate)
 have n7:Uo.length=3:=rfl
 have n8:YX.length=4:=rfl
 have n9:YR.length=3:=rfl
 simp only[XW,cC,cE,cL];omega
theorem Es {p:Proc}(h:YA p=true)(hf:XO p=true):(U4 p).length≤100000000:=by
 simp only[YA,cD]at h
 simp only[XO,cD,dZ]at hf
 have n1:=Qy h.1.1.1
 have n2:=Qy h.1.1.2
 have n3:(p.locs.flatMap XW).length≤p.locs.length*1000:=by
  rw[X4,←YV]
  exact Vz fun l hl=>Eu (cH.1 h.1.2 l hl) (by have:=cH.1 hf.1.2 l hl;simpa using this)
 have n4:(p.edges.flatMap U6).length≤p.edges.length*1000000:=by
  rw[X4,←YV]
  exact Vz fun l hl=>To (cH.1 h.2 l hl) (cH.1 hf.2 l hl)
 have n5:Jq.length=7:=rfl
 have n6:XA.length=4:=rfl
 simp only[U4,cC,cE,cL];omega
theorem Eo {v:Var}(h:XV v=true):(UC v).length≤100:=by
 simp only[XV,cD]at h
 have n1:=Qy h.1
 have n2:=JP h.2.1;have n3:=JP h.2.2.1;have n4:=JP h.2.2.2
 have n5:Vx.length=3:=rfl
 have n6:M1.length=2:=rfl
 simp only[UC,cC,cE,cL];omega
theorem GK {c:Chan}(h:Oe c=true):(V7 c).length≤100:=by
 have n1:=Qy h
 have n2:ZX.length=4:=rfl
 have n3:(if c.broadcast then Jm++[32]else[]).length≤10:=by split <;> simp [Jm]
 have n4:(if c.urgent then Zl++[32]else[]).length≤7:=by split <;> simp [Zl]
 simp only[V7,cC,cE,cL];omega
theorem Tp {l:List Bs}(h:l.all Qf=true)(hl:l.length≤8):(XH l).length≤200∧(Lib.join l [44,32]).length≤200:=by
 have n3:=Wx (sep:=[44,32]) (l:=l)
 have n4:(l.map fun t=>t.length+[(44:UInt8),32].length).sum≤(l.map fun _=>18).sum:=Vz fun p hp=>by
  have:=Qy (cH.1 h p hp)
  simp only[cE,cL];omega
 rw[YV]at n4
 refine⟨?_,by omega⟩
 have n5:Kw.length=5:=rfl
 unfold XH
 split
 ·simp
 ·simp only[cC,cE,cL];omega
theorem Et {m:Model}(h:WK m=true)(hf:UT m=true):(Xr m).length≤1000000000:=by
 simp only[WK,cD]at h
 simp only[UT,cD,dZ]at hf
 have n1:=Qy h.1.1.1.1.1
 have n2:=(Tp h.1.1.1.1.2 hf.1.1.1.1.1).1
 have n3:(m.vars.flatMap UC).length≤m.vars.length*100:=by
  rw[X4,←YV]
  exact Vz fun l hl=>Eo (cH.1 h.1.1.1.2 l hl)
 have n4:(m.chans.flatMap V7).length≤m.chans.length*100:=by
  rw[X4,←YV]
  exact Vz fun l hl=>GK (cH.1 h.1.1.2 l hl)
 have n5:=Tn h.1.2 hf.1.1.2
 have n6:(m.procs.flatMap U4).length≤m.procs.length*100000000:=by
  rw[X4,←YV]
  exact Vz fun l hl=>Es (cH.1 h.2 l hl) (cH.1 hf.2 l hl)
 have n7:W8.length=5:=rfl
 simp only[Xr,cC,cE,cL];omega
theorem zD {C:Cx}{t:Bool}{a b:LC}{s:List Fr}{env:Qn}{ds:List QV}{A:Q2}(M:KS)(h1:C.cd (.raw (.bool t)) a b (.post M::s) env ds A)(h2:∀env ds A,M env ds A→C.ex .normal s env ds A):C.cd (.raw (.bool t)) a b s env ds A:=by
 cases t with
 |true=>
  rw[Sz]at h1⊢
  refine Vt a _ _ (fun e env ds A h=> ?_) env ds A h1
  cases e with
  |normal=>exact h2 env ds A h
  |exit j=>exact h
  |ret=>exact h
 |false=>
  rw[TY]at h1⊢
  refine Vt b _ _ (fun e env ds A h=> ?_) env ds A h1
  cases e with
  |normal=>exact h2 env ds A h
  |exit j=>exact h
  |ret=>exact h
theorem Mz {l:List Bs}:Lib.join l []=l.flatten:=by
 cases l with
 |nil=>rfl
 |cons a l=>rw[Lib.join_cons];simp [Lib.joinTail]
section
variable (G:Nat→Option (List AV))
theorem n14 (hG:Gl G)(m:Model){A:Q2}(hm:LtM m):QB Tryz.prog G 14 [.agg m.cells] A (.tuple [.str (if VV m=0 then Xr m else[]),i64 (VV m)]) A:=by
 have h16:=fun A=>PM G m (A:=A) hm
 have hmc:Model.cells m=[.str m.name,.slice 1 m.clocks.length (m.clocks.flatMap Zp) none,.slice 4 m.vars.length (m.vars.flatMap Var.cells) none,.slice 3 m.chans.length (m.chans.flatMap Chan.cells) none,.slice 3 m.funcs.length (m.funcs.flatMap Func.cells) none,.slice 4 m.procs.length (m.procs.flatMap Proc.cells) none]:=rfl
 refine Q4 l14 (fE rfl) ?_
 unfold C14
 rw[hmc]at h16⊢
 refine Qb (fun env ds B=>∃d,env 1=.ptr d 0∧ds=[]∧A d=none∧B=A.upd d (some (.cells [.str m.name,.slice 1 m.clocks.length (m.clocks.flatMap Zp) none,.slice 4 m.vars.length (m.vars.flatMap Var.cells) none,.slice 3 m.chans.length (m.chans.flatMap Chan.cells) none,.slice 3 m.funcs.length (m.funcs.flatMap Func.cells) none,.slice 4 m.procs.length (m.procs.flatMap Proc.cells) none]))) ?_ ?_
 ·simp only[Q1,seval]
  intro d hd
  exact⟨d,rfl,hd,rfl⟩
 rintro env ds B ⟨d,e1,rfl,hd,rfl⟩
 have hdA:(A.upd d (some (.cells [.str m.name,.slice 1 m.clocks.length (m.clocks.flatMap Zp) none,.slice 4 m.vars.length (m.vars.flatMap Var.cells) none,.slice 3 m.chans.length (m.chans.flatMap Chan.cells) none,.slice 3 m.funcs.length (m.funcs.flatMap Func.cells) none,.slice 4 m.procs.length (m.procs.flatMap Proc.cells) none]))) d=_:=Q0 ..
 have unO:∀B,QU (A.upd d (some (.cells [.str m.name,.slice 1 m.clocks.length (m.clocks.flatMap Zp) none,.slice 4 m.vars.length (m.vars.flatMap Var.cells) none,.slice 3 m.chans.length (m.chans.flatMap Chan.cells) none,.slice 3 m.funcs.length (m.funcs.flatMap Func.cells) none,.slice 4 m.procs.length (m.procs.flatMap Proc.cells) none]))) B→QU A B:=fun B h=>h.unset hd
 generalize A.upd d (some (.cells [.str m.name,.slice 1 m.clocks.length (m.clocks.flatMap Zp) none,.slice 4 m.vars.length (m.vars.flatMap Var.cells) none,.slice 3 m.chans.length (m.chans.flatMap Chan.cells) none,.slice 3 m.funcs.length (m.funcs.flatMap Func.cells) none,.slice 4 m.procs.length (m.procs.flatMap Proc.cells) none]))=A1 at*
 by_cases hform:VV m=0
 case neg=>
  rw[fD hform]
  simp only[e1,hdA,Q1,seval]
  refine Q3 (h16 _) ?_
  simp only[Q1,seval]
  exact⟨fun h=>absurd h hform,fun _=>Qc rfl (unO _ (.refl _))⟩
 rw[fC hform]
 refine Qb (fun env ds B=>env 1=.ptr d 0∧ds=[]∧A1=B) ?_ ?_
 ·simp only[e1,hdA,Q1,seval]
  refine Q3 (h16 _) ?_
  rw[hform]
  simp only[e1,Q1,seval]
 rintro env ds _ ⟨e1,rfl,rfl⟩
 rw[hform]
 have hwf:WK m=true∧UT m=true:=by
  unfold VV at hform
  by_cases h1:WK m=true
  ·rw[fC h1]at hform
   by_cases h2:UT m=true
   ·exact⟨h1,h2⟩
   ·rw[fD h2]at hform;exact absurd hform (by decide)
  ·rw[fD h1]at hform;exact absurd hform (by decide)
 have hl:=Et hwf.1 hwf.2
 obtain⟨hw,hf⟩:=hwf
 clear h16 hform
 obtain⟨nm,cl,vs,ch,fs,ps⟩:=m
 obtain⟨y1,y2,y3,y4,y5,y6,y7,y8,y9,y10,y11,y12⟩:=hm
 simp only[WK,cD]at hw
 simp only[UT,cD,dZ]at hf
 simp only at y1 y2 y3 y4 y5 y6 y7 y8 y9 y10 y11 y12 hdA
 obtain⟨⟨⟨⟨⟨w1,w2⟩,hV⟩,hC⟩,hF⟩,hP⟩:=hw
 obtain⟨⟨⟨⟨⟨f1,f2⟩,f3⟩,f4⟩,f5⟩,fP⟩:=hf
 have n0:=Qy w1
 have ckl:=Tp w2 f1
 have htM:Xr ⟨nm,cl,vs,ch,fs,ps⟩=W8++[32]++nm++[59,10]++XH cl++vs.flatMap UC++ch.flatMap V7++Vw fs++ps.flatMap U4:=rfl
 rw[htM]at hl⊢
 clear htM
 have htM:True:=trivial
 refine Qb (fun env ds B=>∃b,env 1=.ptr d 0∧env 5=.ptr b 0∧ds=[]∧Bd A1 b [] B) ?_ ?_
 ·simp only[e1,Q1,seval]
  intro b hb ho
  exact⟨b,rfl,HW hb ho⟩
 rintro env ds B ⟨b,e1,e5,rfl,h⟩
 refine Qb (fun env ds B=>env 1=.ptr d 0∧env 5=.ptr b 0∧ds=[]∧Bd A1 b (W8++[32]++nm++[59,10]) B) ?_ ?_
 ·have hdB:=h.ovr.keep hdA
  simp only[e1,e5,hdB,Q1,seval]
  refine⟨by omega,by omega,Qg (VT G h (by simp;omega)) ?_⟩
  rintro o B' ⟨rfl,h⟩
  simp only[e1,e5,Q1,seval]
  simpa[W8]using h
 clear h
 rintro env ds B ⟨e1,e5,rfl,h⟩
 generalize hS0:W8++[32]++nm++[59,10]=S0 at*
 have hS0l:S0.length≤40:=by rw[←hS0];simp [W8];omega
 refine Qb (fun env ds B=>env 1=.ptr d 0∧env 5=.ptr b 0∧ds=[]∧Bd A1 b (S0++XH cl) B) ?_ ?_
 ·have hdB:=h.ovr.keep hdA
  simp only[e1,e5,hdB,Q1,seval]
  refine⟨fun hp=> ?_,fun hp=> ?_⟩
  ·have hb:cl.isEmpty=false:=by cases cl with|nil=>simp at hp|cons=>rfl
   refine Q3 (f42 G cl [44,32] rfl rfl _ (by omega) (by omega)) ?_
   simp only[e1,e5,Q1,seval]
   refine⟨by omega,by omega,Qg (VT G h (by simp;omega)) ?_⟩
   rintro o B' ⟨rfl,h⟩
   simp only[e1,e5,Q1,seval]
   simpa[XH,hb,Kw]using h
  ·have hb:cl.isEmpty=true:=by cases cl with|nil=>rfl|cons a b=>exact absurd (by simp) hp
   simpa[XH,hb]using h
 clear h
 rintro env ds B ⟨e1,e5,rfl,h⟩
 generalize hS1:S0++XH cl=S1 at*
 refine Qb (fun env ds B=>env 1=.ptr d 0∧env 5=.ptr b 0∧ds=[]∧Bd A1 b (S1++vs.flatMap UC) B) ?_ ?_
 ·have hdB:=h.ovr.keep hdA
  simp only[e1,e5,hdB,Q1,seval]
  refine Qt (fun k env ds B=>∃pre post,vs=pre++post∧k=post.length∧env 1=.ptr d 0∧env 5=.ptr b 0∧env 35=.slice 4 vs.length (vs.flatMap Var.cells) none∧env 36=i64 vs.length∧env 37=i64 pre.length∧ds=[]∧Bd A1 b (S1++pre.flatMap UC) B) vs.length
   ⟨[],vs,rfl,rfl,e1,e5,rfl,rfl,rfl,rfl,by simpa using h⟩ ?_
  clear h hdB e1 e5
  rintro k env ds B ⟨pre,post,hpp,rfl,e1,e5,eA,eB,eC,rfl,h⟩
  have hl2:(pre.length:Int)+post.length=vs.length:=by rw[hpp];simp
  cases post with
  |nil=>
   have hlt:¬((pre.length:Int)<vs.length):=by simp at hl2;omega
   have hpl:vs=pre:=by rw[hpp];simp
   simp only[e1,e5,eA,eB,eC,Q1,seval]
   refine⟨fun h=>absurd h hlt,fun _=>by rw[hpl];exact h⟩
  |cons x post=>
   have hlt:((pre.length:Int)<vs.length):=by simp at hl2;omega
   have e2:IntKind.i64.wrap ((pre.length:Int)+1)=((pre++[x]).length:Nat):=by rw[Qe (by omega) (by omega)];simp
   have hmem:x∈vs:=by rw[hpp];simp
   have hle:(S1++pre.flatMap UC).length+(UC x).length≤1000000000:=by
    have:(S1++vs.flatMap UC).length≤1000000000:=by simp only[cC]at hl⊢;omega
    rw[hpp]at this
    simp only[cC,List.flatMap_append,dD]at this⊢;omega
   have next:∀B',Bd A1 b (S1++pre.flatMap UC++UC x) B'→Bd A1 b (S1++(pre++[x]).flatMap UC) B':=fun B' h=>by
    simpa[cU]using h
   generalize hS:S1++pre.flatMap UC=S at*
   simp only[e1,e5,eA,eB,eC,Q1,seval]
   refine⟨fun _=>⟨hlt,?_⟩,fun h=>absurd hlt h⟩
   have hd:(vs.flatMap Var.cells).drop (pre.length*4)=Var.cells x++post.flatMap Var.cells:=by rw[hpp,Zd (sz:=4) (fun _=>rfl)];simp
   rw[hd,dM (show(Var.cells x).length=4 from rfl)]
   refine⟨by simp [Var.cells],fun q hq=> ?_⟩
   have hw:=cH.1 hV x hmem
   simp only[XV,cD]at hw
   have n1:=Qy hw.1
   obtain⟨nv,lo,hi,iv⟩:=x
   simp only at hw n1
   have m1:=JP hw.2.1;have m2:=JP hw.2.2.1;have m3:=JP hw.2.2.2
   have htV:UC ⟨nv,lo,hi,iv⟩=Vx++[32]++nv++[32]++M1++[32]++Lib.itoa lo++[46,46]++Lib.itoa hi++[32,61,32]++Lib.itoa iv++[59,10]:=rfl
   rw[htV]at hle next
   simp only[Var.cells,Q1,seval]
   have hAq:=h.ovr.gone hq
   have h:=h.base hq (cs:=[.str nv,i64 lo,i64 hi,i64 iv])
   have un:∀{bs B},Bd (A1.upd q (some (.cells [.str nv,i64 lo,i64 hi,i64 iv]))) b bs B→Bd A1 b bs B:=fun h=>h.un hAq
   have hq1:(A1.upd q (some (.cells [.str nv,i64 lo,i64 hi,i64 iv]))) q=some (.cells [.str nv,i64 lo,i64 hi,i64 iv]):=Q0 ..
   generalize B.upd q (some (.cells [.str nv,i64 lo,i64 hi,i64 iv]))=B at*
   generalize A1.upd q (some (.cells [.str nv,i64 lo,i64 hi,i64 iv]))=A2 at*
   have hqB:=h.ovr.keep hq1
   refine ZA (Zb (by simp;omega)) ?_
   simp only[hqB,Q1,seval]
   refine ZA (Zb (by simp;omega)) ?_
   simp only[hqB,Q1,seval]
   refine Q3 (M3 G hG lo _ hw.2.1) ?_
   simp only[hqB,QM,Q1,seval]
   refine ZA (Zb (by simp;omega)) ?_
   simp only[hqB,Q1,seval]
   refine ZA (Zb (by simp;omega)) ?_
   simp only[hqB,Q1,seval]
   refine Q3 (M3 G hG hi _ hw.2.2.1) ?_
   simp only[hqB,QM,Q1,seval]
   refine ZA (Zb (by simp;omega)) ?_
   simp only[hqB,Q1,seval]
   refine ZA (Zb (by simp;omega)) ?_
   simp only[hqB,Q1,seval]
   refine Q3 (M3 G hG iv _ hw.2.2.2) ?_
   simp only[hqB,QM,Q1,seval]
   refine ZA (Zb (by simp;omega)) ?_
   simp only[Q1,seval]
   refine ZA (Zb (by simp;omega)) ?_
   simp only[e5,Q1,seval]
   refine Qg (VT G h (by simp [Vx,M1]at hle⊢;omega)) ?_
   rintro o B ⟨rfl,h⟩
   simp only[e1,e5,eA,eB,eC,e2,QM,Q1,seval]
   exact⟨post.length,by simp,pre++[⟨nv,lo,hi,iv⟩],post,by simp [hpp],rfl,rfl,next _ (by simpa[cU,Vx,M1]using un h)⟩
 clear h
 rintro env ds B ⟨e1,e5,rfl,h⟩
 generalize hS2:S1++vs.flatMap UC=S2 at*
 refine Qb (fun env ds B=>env 1=.ptr d 0∧env 5=.ptr b 0∧ds=[]∧Bd A1 b (S2++ch.flatMap V7) B) ?_ ?_
 ·have hdB:=h.ovr.keep hdA
  simp only[e1,e5,hdB,Q1,seval]
  refine Qt (fun k env ds B=>∃pre post,ch=pre++post∧k=post.length∧env 1=.ptr d 0∧env 5=.ptr b 0∧env 63=.slice 3 ch.length (ch.flatMap Chan.cells) none∧env 64=i64 ch.length∧env 65=i64 pre.length∧ds=[]∧Bd A1 b (S2++pre.flatMap V7) B) ch.length
   ⟨[],ch,rfl,rfl,e1,e5,rfl,rfl,rfl,rfl,by simpa using h⟩ ?_
  clear h hdB e1 e5
  rintro k env ds B ⟨pre,post,hpp,rfl,e1,e5,eA,eB,eC,rfl,h⟩
  have hl2:(pre.length:Int)+post.length=ch.length:=by rw[hpp];simp
  cases post with
  |nil=>
   have hlt:¬((pre.length:Int)<ch.length):=by simp at hl2;omega
   have hpl:ch=pre:=by rw[hpp];simp
   simp only[e1,e5,eA,eB,eC,Q1,seval]
   refine⟨fun h=>absurd h hlt,fun _=>by rw[hpl];exact h⟩
  |cons x post=>
   have hlt:((pre.length:Int)<ch.length):=by simp at hl2;omega
   have e2:IntKind.i64.wrap ((pre.length:Int)+1)=((pre++[x]).length:Nat):=by rw[Qe (by omega) (by omega)];simp
   have hmem:x∈ch:=by rw[hpp];simp
   have hle:(S2++pre.flatMap V7).length+(V7 x).length≤1000000000:=by
    have:(S2++ch.flatMap V7).length≤1000000000:=by simp only[cC]at hl⊢;omega
    rw[hpp]at this
    simp only[cC,List.flatMap_append,dD]at this⊢;omega
   have next:∀B',Bd A1 b (S2++pre.flatMap V7++V7 x) B'→Bd A1 b (S2++(pre++[x]).flatMap V7) B':=fun B' h=>by
    simpa[cU]using h
   generalize hS:S2++pre.flatMap V7=S at*
   simp only[e1,e5,eA,eB,eC,Q1,seval]
   refine⟨fun _=>⟨hlt,?_⟩,fun h=>absurd hlt h⟩
   have hd:(ch.flatMap Chan.cells).drop (pre.length*3)=Chan.cells x++post.flatMap Chan.cells:=by rw[hpp,Zd (sz:=3) (fun _=>rfl)];simp
   rw[hd,dM (show(Chan.cells x).length=3 from rfl)]
   refine⟨by simp [Chan.cells],fun q hq=> ?_⟩
   have hw:=cH.1 hC x hmem
   have n1:=Qy (show Qf x.name=true from hw)
   obtain⟨nc,bb,uu⟩:=x
   simp only at n1
   have htC:V7 ⟨nc,bb,uu⟩=(if bb then Jm++[32]else[])++(if uu then Zl++[32]else[])++ZX++[32]++nc++[59,10]:=rfl
   rw[htC]at hle next
   simp only[Chan.cells,Q1,seval]
   have hAq:=h.ovr.gone hq
   have h:=h.base hq (cs:=[.str nc,bo bb,bo uu])
   have un:∀{bs B},Bd (A1.upd q (some (.cells [.str nc,bo bb,bo uu]))) b bs B→Bd A1 b bs B:=fun h=>h.un hAq
   have hq1:(A1.upd q (some (.cells [.str nc,bo bb,bo uu]))) q=some (.cells [.str nc,bo bb,bo uu]):=Q0 ..
   generalize B.upd q (some (.cells [.str nc,bo bb,bo uu]))=B at*
   generalize A1.upd q (some (.cells [.str nc,bo bb,bo uu]))=A2 at*
   have hqB:=h.ovr.keep hq1
   refine zD (fun env ds B=>env 1=.ptr d 0∧env 5=.ptr b 0∧env 63=.slice 3 ch.length (ch.flatMap Chan.cells) none∧env 64=i64 ch.length∧env 65=i64 pre.length∧env 9=.ptr q 0∧ds=[]∧Bd A2 b (S++(if bb then Jm++[32]else[])) B) ?_ ?_
   ·cases bb with
    |false=>
     simp only[hqB,e1,e5,eA,eB,eC,Q1,seval]
     simpa using h
    |true=>
     simp only[hqB,e1,e5,eA,eB,eC,Q1,seval]
     refine Qg (VT G h (by simp [Jm]at hle⊢;omega)) ?_
     rintro o B' ⟨rfl,h⟩
     simp only[e1,e5,eA,eB,eC,Q1,seval]
     simpa[Jm]using h
   clear h hqB e1 e5 eA eB eC
   rintro env ds B ⟨e1,e5,eA,eB,eC,eq,rfl,h⟩
   have hqB:=h.ovr.keep hq1
   refine Nh (Qb (fun env ds B=>env 1=.ptr d 0∧env 5=.ptr b 0∧env 63=.slice 3 ch.length (ch.flatMap Chan.cells) none∧env 64=i64 ch.length∧env 65=i64 pre.length∧env 9=.ptr q 0∧ds=[]∧Bd A2 b (S++(if bb then Jm++[32]else[])++(if uu then Zl++[32]else[])) B) ?_ ?_)
   ·cases uu with
    |false=>
     simp only[hqB,e1,e5,eA,eB,eC,eq,Q1,seval]
     simpa using h
    |true=>
     simp only[hqB,e1,e5,eA,eB,eC,eq,Q1,seval]
     refine Qg (VT G h (by simp [Zl]at hle⊢;omega)) ?_
     rintro o B' ⟨rfl,h⟩
     simp only[e1,e5,eA,eB,eC,eq,Q1,seval]
     simpa[Zl]using h
   clear h hqB e1 e5 eA eB eC
   rintro env ds B ⟨e1,e5,eA,eB,eC,eq,rfl,h⟩
   have hqB:=h.ovr.keep hq1
   simp only[hqB,eq,e5,Q1,seval]
   refine⟨by omega,by omega,?_⟩
   refine Qg (VT G h (by simp only[ZX,cC,cE,cL]at hle⊢;omega)) ?_
   rintro o B ⟨rfl,h⟩
   simp only[e1,e5,eA,eB,eC,e2,QM,Q1,seval]
   exact⟨post.length,by simp,pre++[⟨nc,bb,uu⟩],post,by simp [hpp],rfl,rfl,next _ (by simpa[cU,ZX]using un h)⟩
 clear h
 rintro env ds B ⟨e1,e5,rfl,h⟩
 generalize hS3:S2++ch.flatMap V7=S3 at*
 refine Qb (fun env ds B=>env 1=.ptr d 0∧env 5=.ptr b 0∧env 10=.str (Vw fs)∧ds=[]∧Bd A1 b S3 B) ?_ ?_
 ·have hdB:=h.ovr.keep hdA
  simp only[e1,e5,hdB,Q1,seval]
  refine Q3 (k44 G hG fs hF f4 y9 y8 y10 (by have:=Tn hF f4;omega)) ?_
  simp only[e1,e5,Q1,seval]
  exact h
 clear h
 rintro env ds B ⟨e1,e5,e10,rfl,h⟩
 refine Qb (fun env ds B=>env 1=.ptr d 0∧env 5=.ptr b 0∧ds=[]∧Bd A1 b (S3++Vw fs) B) ?_ ?_
 ·simp only[e1,e5,e10,Q1,seval]
  refine Qg (VT G h (by simp only[cC]at hl;omega)) ?_
  rintro o B' ⟨rfl,h⟩
  simp only[e1,e5,Q1,seval]
  exact h
 clear h
 rintro env ds B ⟨e1,e5,rfl,h⟩
 generalize hS4:S3++Vw fs=S4 at*
 refine Qb (fun env ds B=>env 1=.ptr d 0∧env 5=.ptr b 0∧ds=[]∧Bd A1 b (S4++ps.flatMap U4) B) ?_ ?_
 ·have hdB:=h.ovr.keep hdA
  simp only[e1,e5,hdB,Q1,seval]
  refine Qt (fun k env ds B=>∃pre post,ps=pre++post∧k=post.length∧env 1=.ptr d 0∧env 5=.ptr b 0∧env 90=.slice 4 ps.length (ps.flatMap Proc.cells) none∧env 91=i64 ps.length∧env 92=i64 pre.length∧ds=[]∧Bd A1 b (S4++pre.flatMap U4) B) ps.length
   ⟨[],ps,rfl,rfl,e1,e5,rfl,rfl,rfl,rfl,by simpa using h⟩ ?_
  clear h hdB e1 e5
  rintro k env ds B ⟨pre,post,hpp,rfl,e1,e5,eA,eB,eC,rfl,h⟩
  have hl2:(pre.length:Int)+post.length=ps.length:=by rw[hpp];simp
  cases post with
  |nil=>
   have hlt:¬((pre.length:Int)<ps.length):=by simp at hl2;omega
   have hpl:ps=pre:=by rw[hpp];simp
   simp only[e1,e5,eA,eB,eC,Q1,seval]
   refine⟨fun h=>absurd h hlt,fun _=>by rw[hpl];exact h⟩
  |cons x post=>
   have hlt:((pre.length:Int)<ps.length):=by simp at hl2;omega
   have e2:IntKind.i64.wrap ((pre.length:Int)+1)=((pre++[x]).length:Nat):=by rw[Qe (by omega) (by omega)];simp
   have hmem:x∈ps:=by rw[hpp];simp
   have hle:(S4++pre.flatMap U4).length+(U4 x).length≤1000000000:=by
    have:(S4++ps.flatMap U4).length≤1000000000:=by simp only[cC]at hl⊢;omega
    rw[hpp]at this
    simp only[cC,List.flatMap_append,dD]at this⊢;omega
   have next:∀B',Bd A1 b (S4++pre.flatMap U4++U4 x) B'→Bd A1 b (S4++(pre++[x]).flatMap U4) B':=fun B' h=>by
    simpa[cU]using h
   generalize hS:S4++pre.flatMap U4=S at*
   simp only[e1,e5,eA,eB,eC,Q1,seval]
   refine⟨fun _=>⟨hlt,?_⟩,fun h=>absurd hlt h⟩
   have hd:(ps.flatMap Proc.cells).drop (pre.length*4)=Proc.cells x++post.flatMap Proc.cells:=by rw[hpp,Zd (sz:=4) (fun _=>rfl)];simp
   rw[hd,dM (show(Proc.cells x).length=4 from rfl)]
   refine⟨by simp [Proc.cells],fun q hq=> ?_⟩
   have hw:=cH.1 hP x hmem
   have hf:=cH.1 fP x hmem
   have hlt':=y12 x hmem
   obtain⟨np,ip,ls,es⟩:=x
   simp only[YA,cD]at hw
   simp only[XO,cD,dZ]at hf
   have n1:=Qy hw.1.1.1;have n2:=Qy hw.1.1.2
   have htP:U4 ⟨np,ip,ls,es⟩=Jq++[32]++np++[32]++XA++[32]++ip++[32,123,10]++ls.flatMap XW++es.flatMap U6++[125,10]:=rfl
   rw[htP]at hle next
   simp only[Proc.cells,Qr,Q1,seval]
   have hAq:=h.ovr.gone hq
   have h:=h.base hq (cs:=[.str np,.str ip,.slice 4 ls.length (ls.flatMap Loc.cells) none,.slice 13 es.length (es.flatMap Edge.cells) none])
   have un:∀{bs B},Bd (A1.upd q (some (.cells [.str np,.str ip,.slice 4 ls.length (ls.flatMap Loc.cells) none,.slice 13 es.length (es.flatMap Edge.cells) none]))) b bs B→Bd A1 b bs B:=fun h=>h.un hAq
   have hq1:(A1.upd q (some (.cells [.str np,.str ip,.slice 4 ls.length (ls.flatMap Loc.cells) none,.slice 13 es.length (es.flatMap Edge.cells) none]))) q=some (.cells [.str np,.str ip,.slice 4 ls.length (ls.flatMap Loc.cells) none,.slice 13 es.length (es.flatMap Edge.cells) none]):=Q0 ..
   generalize B.upd q (some (.cells [.str np,.str ip,.slice 4 ls.length (ls.flatMap Loc.cells) none,.slice 13 es.length (es.flatMap Edge.cells) none]))=B at*
   generalize A1.upd q (some (.cells [.str np,.str ip,.slice 4 ls.length (ls.flatMap Loc.cells) none,.slice 13 es.length (es.flatMap Edge.cells) none]))=A2 at*
   have hqB:=h.ovr.keep hq1
   have j1:Lib.join (ls.map XW) []=ls.flatMap XW:=by rw[Mz,List.flatMap_def]
   have j2:Lib.join (es.map U6) []=es.flatMap U6:=by rw[Mz,List.flatMap_def]
   obtain⟨z1,z2,z3,z4,z5,z6⟩:=hlt'
   simp only at z6
   have k45:=fun A=>kJ G l45 rfl (A:=A) (xs:=ls) (enc:=Loc.cells) (tx:=XW) (fn:=46) (sep:=[]) (t1:=none) (fun _=>rfl) (fun _=>rfl) rfl rfl rfl (by omega) (by rw[j1];simp only[cC]at hle;omega) fun x hx A=>k46 G hG x A (cH.1 hw.1.2 x hx) (by have:=cH.1 hf.1.2 x hx;simpa using this)
   have k47:=fun A=>kJ G l47 rfl (A:=A) (xs:=es) (enc:=Edge.cells) (tx:=U6) (fn:=48) (sep:=[]) (t1:=none) Edge.cells_len (fun x=>by obtain⟨_,_,_,co,_,_,_,_,_,_⟩:=x;obtain⟨_,_,_,_⟩:=co;rfl) rfl rfl rfl (by omega) (by rw[j2];simp only[cC]at hle;omega) fun x hx A=>k48 G hG x A (cH.1 hw.2 x hx) (cH.1 hf.2 x hx) (z6 x hx)
   rw[j1]at k45
   rw[j2]at k47
   refine ZA (Zb (by simp;omega)) ?_
   simp only[hqB,Q1,seval]
   refine ZA (Zb (by simp;omega)) ?_
   simp only[hqB,Q1,seval]
   refine ZA (Zb (by simp;omega)) ?_
   simp only[hqB,Q1,seval]
   refine ZA (Zb (by simp;omega)) ?_
   simp only[hqB,Q1,seval]
   refine Q3 (k45 _) ?_
   simp only[hqB,QM,Q1,seval]
   refine ZA (Zb (by simp at hle⊢;omega)) ?_
   simp only[hqB,Q1,seval]
   refine Q3 (k47 _) ?_
   simp only[hqB,QM,Q1,seval]
   refine ZA (Zb (by simp at hle⊢;omega)) ?_
   simp only[Q1,seval]
   refine ZA (Zb (by simp at hle⊢;omega)) ?_
   simp only[e5,Q1,seval]
   refine Qg (VT G h (by simp [Jq,XA]at hle⊢;omega)) ?_
   rintro o B ⟨rfl,h⟩
   simp only[e1,e5,eA,eB,eC,e2,QM,Q1,seval]
   exact⟨post.length,by simp,pre++[⟨np,ip,ls,es⟩],post,by simp [hpp],rfl,rfl,next _ (by simpa[cU,Jq,XA]using un h)⟩
 clear h
 rintro env ds B ⟨e1,e5,rfl,h⟩
 generalize hS5:S4++ps.flatMap U4=S5 at*
 simp only[e5,Q1,seval]
 refine Q3 (h.string G (by omega)) ?_
 simp only[Q1,seval]
 exact Qc rfl (unO _ h.ovr)
end
end Go.Proofs.YtcbjbgaefighcaaGreatDoor
