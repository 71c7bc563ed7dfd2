/- Part 35 of the proof. -/
import Derived.Test.YtcbjbgaefighcaaGreatDoorT0
import Derived.Test.YtcbjbgaefighcaaGreatDoorT26
import Derived.Test.YtcbjbgaefighcaaGreatDoorT33
import Derived.Test.YtcbjbgaefighcaaGreatDoorT34
set_option linter.all false
namespace Go.Proofs.YtcbjbgaefighcaaGreatDoor
open Go Go.Ax Go.Ax.K Go.Proofs
def Kd (A:Q2):Out→Q2→Prop:=fun o A1=>(∃t,o=.ret (bo t))∧A1=A
def SX (A:Q2):Out→Q2→Prop:=fun o A1=>(∃n:Int,o=.ret (i64 n))∧A1=A
theorem WX {A B:Q2}{t:Bool}(h:QU A B):U1 (some (bo t)) (Kd A) B:=J2 (Wk.refl _) h.wk ⟨⟨t,rfl⟩,rfl⟩
theorem Cs {A B:Q2}{n:Int}(h:QU A B):U1 (some (i64 n)) (SX A) B:=J2 (Wk.refl _) h.wk ⟨⟨n,rfl⟩,rfl⟩
theorem X3 {C:Cx}{hd st body:LC}{c j j1:Nat}{s:List Fr}{env:Qn}{B:Q2}(n:Nat)(R:Nat→Qn→Q2→Prop)(h0:R 0 env B)
 (hhd:∀i env B s,i≤n→R i env B→C.run hd (.post (fun env' ds B'=>ds=[]∧(∃t,env' c=bo t∧(t=true→i<n))∧R i env' B')::s) env [] B)
 (hbody:∀i env B FR,i<n→R i env B→(∀env ds B,C.ex .ret FR env ds B=C.ex .ret s env ds B)→C.run (.seq (.block j1 body) st) (.post (fun env' ds B'=>ds=[]∧R (i+1) env' B')::FR) env [] B)
 (hend:∀i env B,R i env B→C.ex .normal s env [] B):
 C.run (.block j (.loop (.seq (.seq hd (.cond (.tmp c) .skip (.exit j))) (.seq (.block j1 body) st)))) s env [] B:=by
 rw[Vm]
 refine Qt (fun k env ds B=>∃i,k=n - i∧i≤n∧ds=[]∧R i env B) n ⟨0,by omega,by omega,rfl,h0⟩ ?_
 rintro k env ds B ⟨i,rfl,hi,rfl,hR⟩
 refine Qb (fun env ds B=>ds=[]∧i<n∧R i env B) ?_ ?_
 ·refine Qb _ (hhd i env B _ hi hR) ?_
  rintro env ds B ⟨rfl,⟨t,hc,ht⟩,hR⟩
  cases t with
  |true=>
   simp only[hc,QJ,seval]
   exact⟨ht rfl,hR⟩
  |false=>
   simp only[hc,QJ,seval]
   exact hend _ _ _ hR
 ·rintro env ds B ⟨rfl,h,hR⟩
  have h2:=hbody i env B (.post (fun env ds A=>∃m,m<n - i∧∃i',m=n - i'∧i'≤n∧ds=[]∧R i' env A)::.blk j::s) h hR fun env ds B=>by simp only[QJ,seval]
  refine Vt _ _ _ (fun e env ds A h3=> ?_) env [] B h2
  cases e with
  |normal=>
   obtain⟨rfl,h3⟩:=h3
   exact⟨n - (i+1),by omega,i+1,rfl,h,rfl,h3⟩
  |exit j=>exact h3
  |ret=>exact h3
theorem IP {a b:Nat}{x y:Int}{R:Prop}(h:R):((a:Int)<b→(x≤y→(∃t,AV.raw (.bool true)=bo t∧(t=true→a<b))∧R)∧(¬x≤y→(∃t,AV.raw (.bool false)=bo t∧(t=true→a<b))∧R))∧(¬(a:Int)<b→(∃t,AV.raw (.bool false)=bo t∧(t=true→a<b))∧R):=
 ⟨fun h1=>⟨fun _=>⟨⟨true,rfl,fun _=>by omega⟩,h⟩,fun _=>⟨⟨false,rfl,fun h=>by cases h⟩,h⟩⟩,fun _=>⟨⟨false,rfl,fun h=>by cases h⟩,h⟩⟩
theorem Di {a b:Nat}{R:Prop}(h:R):((a:Int)<b→(∃t,AV.raw (.bool true)=bo t∧(t=true→a<b))∧R)∧(¬(a:Int)<b→(∃t,AV.raw (.bool false)=bo t∧(t=true→a<b))∧R):=
 ⟨fun h1=>⟨⟨true,rfl,fun _=>by omega⟩,h⟩,fun _=>⟨⟨false,rfl,fun h=>by cases h⟩,h⟩⟩
section
variable (G:Nat→Option (List AV))
theorem k36 (xs:List Bs)(most:Int){A:Q2}(hl:xs.length<2^60):Qq Tryz.prog G 36 [.slice 1 xs.length (xs.flatMap Zp) none,i64 most] A (Kd A):=by
 refine Q4 l36 (fE rfl) ?_
 unfold C36
 simp only[Q1,seval]
 refine X3 xs.length (fun i env B=>env 0=.slice 1 xs.length (xs.flatMap Zp) none∧env 1=i64 most∧env 6=i64 i∧B=A∧∃m:Int,env 5=i64 m) ⟨rfl,rfl,rfl,rfl,0,rfl⟩ ?_ ?_ ?_
 ·rintro i env B s hi ⟨e0,e1,e6,rfl,m,e5⟩
  simp only[e0,e1,e5,e6,Q1,seval]
  exact IP ⟨m,rfl⟩
 ·rintro i env B FR hi ⟨e0,e1,e6,rfl,m,e5⟩ _
  have QO:=HS (enc:=Zp) (fun _=>rfl) hi
  have i1:(i:Int)<xs.length:=by omega
  have hw:IntKind.i64.wrap ((i:Int)+1)=((i+1:Nat):Int):=by rw[Qe (by omega) (by omega)];simp
  simp only[e0,e1,e5,e6,QO,Nat.mul_one,i1,Zp,hw,Q1,seval]
  exact⟨_,rfl⟩
 ·rintro i env B ⟨e0,e1,e6,rfl,m,e5⟩
  simp only[e0,e1,e5,Q1,seval]
  exact⟨fun _=>WX (.refl _),fun _=>⟨fun _=>WX (.refl _),fun _=>WX (.refl _)⟩⟩
theorem k72 (x:Exp)(left:Int){A:Q2}(h:Xl x):Qq Tryz.prog G 72 [.agg x.cells,i64 left] A (SX A):=by
 generalize hn:SizeOf.sizeOf x=sz
 induction sz using Nat.strongRecOn generalizing x left A with
 |_ sz ih=>
 obtain⟨k,n,i,xs⟩:=x
 simp only[Xl]at h
 refine Q4 l72 (fE rfl) ?_
 unfold C72
 simp only[Exp.cells,Exp.cellsL_eq,Q1,seval]
 intro p hp
 have hO:QU A (A.upd p (some (.cells [i64 k,.str n,i64 i,.slice 4 xs.length (xs.flatMap Exp.cells) none]))):=(QU.refl A).set hp (by simp)
 have hp:(A.upd p (some (.cells [i64 k,.str n,i64 i,.slice 4 xs.length (xs.flatMap Exp.cells) none]))) p=some (.cells [i64 k,.str n,i64 i,.slice 4 xs.length (xs.flatMap Exp.cells) none]):=Q0 ..
 generalize A.upd p (some (.cells [i64 k,.str n,i64 i,.slice 4 xs.length (xs.flatMap Exp.cells) none]))=B at*
 refine X3 xs.length (fun i env B'=>env 2=.ptr p 0∧env 5=i64 i∧B'=B∧∃m:Int,env 1=i64 m) ⟨rfl,rfl,rfl,_,rfl⟩ ?_ ?_ ?_
 ·rintro i env B s hi ⟨e2,e5,rfl,m,e1⟩
  simp only[e2,e1,e5,hp,Q1,seval]
  exact IP ⟨m,rfl⟩
 ·rintro i env B FR hi ⟨e2,e5,rfl,m,e1⟩ _
  have QO:=Zg (enc:=Exp.cells) (sz:=4) Exp.cells_len hi
  have i1:(i:Int)<xs.length:=by omega
  have hw:IntKind.i64.wrap ((i:Int)+1)=((i+1:Nat):Int):=by rw[Qe (by omega) (by omega)];simp
  simp only[e2,e1,e5,hp,QO,i1,Q1,seval]
  refine Qg (ih (SizeOf.sizeOf xs[i]) ?_ xs[i] m (Wv h.2.2 _ (cV _)) rfl) ?_
  ·have:=cY (cV hi)
   rw[←hn];simp only[Exp.mk.sizeOf_spec];omega
  rintro o B ⟨⟨m',rfl⟩,rfl⟩
  simp only[e2,e1,e5,hw,Q1,seval]
  exact⟨_,rfl⟩
 ·rintro i env B ⟨e2,e5,rfl,m,e1⟩
  simp only[e1,Q1,seval]
  exact Cs hO
theorem T7 (x:Exp)(most:Int){A:Q2}(h:Xl x):Qq Tryz.prog G 19 [.agg x.cells,i64 most] A (Kd A):=by
 refine Q4 l19 (fE rfl) ?_
 have i0:=fun A=>k72 G x most (A:=A) h
 obtain⟨k,n,i,xs⟩:=x
 simp only[Exp.cells]at i0
 unfold C19
 simp only[Exp.cells,Q1,seval]
 intro p hp
 have hO:QU A (A.upd p (some (.cells [i64 k,.str n,i64 i,.slice 4 xs.length (Exp.cellsL xs) none]))):=(QU.refl A).set hp (by simp)
 have hp:(A.upd p (some (.cells [i64 k,.str n,i64 i,.slice 4 xs.length (Exp.cellsL xs) none]))) p=some (.cells [i64 k,.str n,i64 i,.slice 4 xs.length (Exp.cellsL xs) none]):=Q0 ..
 generalize A.upd p (some (.cells [i64 k,.str n,i64 i,.slice 4 xs.length (Exp.cellsL xs) none]))=B at*
 refine Qg (i0 _) ?_
 rintro o B ⟨⟨m',rfl⟩,rfl⟩
 simp only[Q1,seval]
 exact⟨fun _=>WX hO,fun _=>WX hO⟩
theorem k102 (xs:List Stmt)(left:Int){A:Q2}(hl:xs.length<2^60)(h:Wn xs):Qq Tryz.prog G 102 [.slice 8 xs.length (Stmt.cellsL xs) none,i64 left] A (SX A):=by
 generalize hn:SizeOf.sizeOf xs=sz
 induction sz using Nat.strongRecOn generalizing xs left A with
 |_ sz ih=>
 refine Q4 l102 (fE rfl) ?_
 unfold AC
 simp only[Stmt.cellsL_eq,Q1,seval]
 refine X3 xs.length (fun i env B'=>env 0=.slice 8 xs.length (xs.flatMap Stmt.cells) none∧env 5=i64 i∧B'=A∧∃m:Int,env 1=i64 m) ⟨rfl,rfl,rfl,_,rfl⟩ ?_ ?_ ?_
 ·rintro i env B s hi ⟨e0,e5,rfl,m,e1⟩
  simp only[e0,e1,e5,Q1,seval]
  exact IP ⟨m,rfl⟩
 ·rintro i env B FR hi ⟨e0,e5,rfl,m,e1⟩ _
  have QO:=Zg (enc:=Stmt.cells) (sz:=8) Stmt.cells_len hi
  have i1:(i:Int)<xs.length:=by omega
  have hw:IntKind.i64.wrap ((i:Int)+1)=((i+1:Nat):Int):=by rw[Qe (by omega) (by omega)];simp
  have hlt:=Uy h _ (cV hi)
  have hsz:=cY (cV hi)
  generalize xs[i]=x at*
  obtain⟨k,n,v,b,e⟩:=x
  simp only[Kq]at hlt
  have i0:=fun m A=>k72 G v m (A:=A) hlt.2.1
  have i1':=fun m A=>ih (SizeOf.sizeOf b) (by simp only[Stmt.mk.sizeOf_spec]at hsz;omega) b m (A:=A) hlt.2.2.1 hlt.2.2.2.2.1 rfl
  have i2':=fun m A=>ih (SizeOf.sizeOf e) (by simp only[Stmt.mk.sizeOf_spec]at hsz;omega) e m (A:=A) hlt.2.2.2.1 hlt.2.2.2.2.2 rfl
  clear ih
  obtain⟨v0,v1,vi,vx⟩:=v
  simp only[Exp.cells]at i0
  simp only[Stmt.cells,Exp.cells,cF,cI]at QO
  simp only[e0,e1,e5,QO,i1,Q1,seval]
  refine Qg (i0 _ _) ?_
  rintro o B ⟨⟨m1,rfl⟩,rfl⟩
  simp only[e0,e1,e5,QO,i1,QM,Q1,seval]
  refine Qg (i1' _ _) ?_
  rintro o B ⟨⟨m2,rfl⟩,rfl⟩
  simp only[e0,e1,e5,QO,i1,Q1,seval]
  refine Qg (i2' _ _) ?_
  rintro o B ⟨⟨m3,rfl⟩,rfl⟩
  simp only[e0,e1,e5,hw,Q1,seval]
  exact⟨_,rfl⟩
 ·rintro i env B ⟨e0,e5,rfl,m,e1⟩
  simp only[e1,Q1,seval]
  exact Cs (.refl _)
theorem HN {a b:Nat}:((a:Int)<b→(∃t,AV.raw (.bool true)=bo t∧(t=true→a<b)))∧(¬(a:Int)<b→(∃t,AV.raw (.bool false)=bo t∧(t=true→a<b))):=
 ⟨fun h1=>⟨true,rfl,fun _=>by omega⟩,fun _=>⟨false,rfl,fun h=>by cases h⟩⟩
theorem k37 (xs:List Func)(most:Int){A:Q2}(hl:xs.length<2^60)(h:∀f∈xs,Og f):Qq Tryz.prog G 37 [.slice 3 xs.length (xs.flatMap Func.cells) none,i64 most] A (Kd A):=by
 refine Q4 l37 (fE rfl) ?_
 unfold C37
 simp only[Q1,seval]
 refine X3 xs.length (fun i env B'=>env 0=.slice 3 xs.length (xs.flatMap Func.cells) none∧env 1=i64 most∧env 6=i64 i∧B'=A∧∃m:Int,env 5=i64 m) ⟨rfl,rfl,rfl,rfl,_,rfl⟩ ?_ ?_ ?_
 ·rintro i env B s hi ⟨e0,e1,e6,rfl,m,e5⟩
  simp only[e0,e1,e5,e6,Q1,seval]
  exact IP ⟨m,rfl⟩
 ·rintro i env B FR hi ⟨e0,e1,e6,rfl,m,e5⟩ hret
  have QO:=Zg (enc:=Func.cells) (sz:=3) (fun _=>rfl) hi
  have i1:(i:Int)<xs.length:=by omega
  have hw:IntKind.i64.wrap ((i:Int)+1)=((i+1:Nat):Int):=by rw[Qe (by omega) (by omega)];simp
  have hlt:=h _ (cV hi)
  generalize xs[i]=x at*
  obtain⟨n,ps,b⟩:=x
  simp only[Og]at hlt
  simp only[Func.cells,Qr,cF,cI]at QO
  have i2:=fun m A=>k102 G b m (A:=A) hlt.2.2.2.1 hlt.2.2.2.2
  simp only[Stmt.cellsL_eq]at i2
  simp only[e0,e1,e5,e6,QO,i1,Q1,seval]
  refine Qg (k36 G ps most hlt.2.1) ?_
  rintro o B ⟨⟨t,rfl⟩,rfl⟩
  cases t with
  |true=>
   simp only[hret,Q1,seval]
   exact WX (.refl _)
  |false=>
   simp only[e0,e1,e5,e6,QO,i1,Q1,seval]
   refine Qg (i2 _ _) ?_
   rintro o B ⟨⟨m1,rfl⟩,rfl⟩
   simp only[e0,e1,e5,e6,QO,i1,hw,QM,Q1,seval]
   exact⟨_,rfl⟩
 ·rintro i env B ⟨e0,e1,e6,rfl,m,e5⟩
  simp only[e5,Q1,seval]
  exact⟨fun _=>WX (.refl _),fun _=>WX (.refl _)⟩
theorem k38 (x:Proc){A:Q2}(h:RL x):Qq Tryz.prog G 38 [.agg x.cells] A (Kd A):=by
 obtain⟨n,ini,ls,es⟩:=x
 obtain⟨y1,y2,y3,y4,y5,y6⟩:=h
 simp only at y1 y2 y3 y4 y5 y6
 refine Q4 l38 (fE rfl) ?_
 unfold C38
 refine Qb (fun env ds B=>∃p,ds=[]∧env 1=.ptr p 0∧B p=some (.cells [.str n,.str ini,.slice 4 ls.length (ls.flatMap Loc.cells) none,.slice 13 es.length (es.flatMap Edge.cells) none])∧QU A B) ?_ ?_
 ·simp only[Proc.cells,Qr,Q1,seval]
  exact fun p hp=>⟨p,rfl,Q0 ..,(QU.refl A).set hp (by simp)⟩
 rintro env _ B ⟨p,rfl,e1,hp,hO⟩
 have fin:∀t,U1 (some (bo t)) (Kd A) B:=fun t=>WX hO
 refine Qb (fun env ds B'=>ds=[]∧env 1=.ptr p 0∧B=B') ?_ ?_
 ·simp only[e1,hp,Q1,seval]
  exact⟨fun _=>fin _,fun _=>⟨fun _=>fin _,fun _=>⟨fun _=>fin _,fun _=>trivial⟩⟩⟩
 clear e1
 rintro env _ _ ⟨rfl,e1,rfl⟩
 refine Qb (fun env ds B'=>ds=[]∧env 1=.ptr p 0∧B=B') ?_ ?_
 ·simp only[Q1,seval]
  refine X3 ls.length (fun i env B'=>env 1=.ptr p 0∧env 3=i64 i∧B=B') ⟨e1,rfl,rfl⟩ ?_ ?_ ?_
  ·rintro i env _ s hi ⟨e1,e3,rfl⟩
   simp only[e1,e3,hp,Q1,seval]
   exact HN
  ·rintro i env _ FR hi ⟨e1,e3,rfl⟩ hret
   have QO:=Zg (enc:=Loc.cells) (sz:=4) (fun _=>rfl) hi
   have i1:(i:Int)<ls.length:=by omega
   have hw:IntKind.i64.wrap ((i:Int)+1)=((i+1:Nat):Int):=by rw[Qe (by omega) (by omega)];simp
   simp only[e1,e3,hp,QO,i1,Loc.cells,Qr,hret,hw,Q1,seval]
   exact⟨fun _=>fin _,fun _=>⟨fun _=>fin _,fun _=>trivial⟩⟩
  ·rintro i env _ ⟨e1,e3,rfl⟩
   simp only[e1,Q1,seval]
 clear e1
 rintro env _ _ ⟨rfl,e1,rfl⟩
 simp only[Q1,seval]
 refine X3 es.length (fun i env B'=>env 1=.ptr p 0∧env 4=i64 i∧QU B B') ⟨e1,rfl,.refl _⟩ ?_ ?_ ?_
 ·rintro i env B' s hi ⟨e1,e4,hO'⟩
  have hp:=hO'.keep hp
  simp only[e1,e4,hp,Q1,seval]
  exact Di hO'
 ·rintro i env B' FR hi ⟨e1,e4,hO'⟩ hret
  have hp:=hO'.keep hp
  have QO:=Zg (enc:=Edge.cells) (sz:=13) Edge.cells_len hi
  have i1:(i:Int)<es.length:=by omega
  have hw:IntKind.i64.wrap ((i:Int)+1)=((i+1:Nat):Int):=by rw[Qe (by omega) (by omega)];simp
  have hlt:=y6 _ (cV hi)
  generalize es[i]=x at*
  obtain⟨xn,xd,xt,⟨v0,v1,vi,vx⟩,xc,xs,ss,cs,co,ki⟩:=x
  simp only[I3,Of]at hlt
  obtain⟨z1,z2,z3,z4,z5,z6,z7,z8,z9,z10⟩:=hlt
  have i0:=fun A=>T7 G (.mk v0 v1 vi vx) 1000 (A:=A) z5.1
  simp only[Exp.cells]at i0
  simp only[Edge.cells,Exp.cells,Qr,cF,cI]at QO
  refine Qb (fun env ds B'=>ds=[]∧env 1=.ptr p 0∧env 4=i64 i∧QU B B') ?_ ?_
  ·rw[Vm]
   refine Qb (fun env ds B'=>∃d,ds=[]∧env 1=.ptr p 0∧env 4=i64 i∧env 5=.ptr d 0∧B' d=some (.cells [.str xn,.str xd,.slice 4 xt.length (xt.flatMap Test.cells) none,i64 v0,.str v1,i64 vi,.slice 4 vx.length (Exp.cellsL vx) none,.str xc,bo xs,.slice 5 ss.length (ss.flatMap Assign.cells) none,.slice 2 cs.length (cs.flatMap Clear.cells) none,i64 co,i64 ki])∧QU B B') ?_ ?_
   ·simp only[e1,e4,hp,QO,i1,Q1,seval]
    exact fun d hd=>⟨d,rfl,Q0 ..,hO'.set (hO'.gone hd) (by simp)⟩
   clear e1 e4 hp QO hO'
   rintro env _ B' ⟨d,rfl,e1,e4,e5,hd,hO'⟩
   have fin:∀t,U1 (some (bo t)) (Kd A) B':=fun t=>WX (QU.trans hO hO')
   simp only[e1,e4,e5,hd,hret,Q1,seval]
   refine⟨fun _=>fin _,fun _=>⟨fun _=>fin _,fun _=>⟨fun _=>fin _,fun _=>Qg (i0 _) ?_⟩⟩⟩
   rintro o B' ⟨⟨t,rfl⟩,rfl⟩
   cases t with
   |true=>
    simp only[hret,Q1,seval]
    exact fin _
   |false=>
   simp only[e1,e4,e5,hd,Q1,seval]
   refine X3 ss.length (fun i' env B2=>env 1=.ptr p 0∧env 4=i64 i∧env 5=.ptr d 0∧env 6=i64 i'∧B'=B2) ⟨e1,e4,e5,rfl,rfl⟩ ?_ ?_ ?_
   ·rintro i' env _ s hi' ⟨e1,e4,e5,e6,rfl⟩
    simp only[e1,e4,e5,e6,hd,Q1,seval]
    exact HN
   ·rintro i' env _ FR2 hi' ⟨e1,e4,e5,e6,rfl⟩ hret2
    have hd2:=Zg (enc:=Assign.cells) (sz:=5) Assign.cells_len hi'
    have i2:(i':Int)<ss.length:=by omega
    have hw2:IntKind.i64.wrap ((i':Int)+1)=((i'+1:Nat):Int):=by rw[Qe (by omega) (by omega)];simp
    have hlt:=(z8 _ (cV hi')).2.1
    generalize ss[i']=x at*
    obtain⟨an,a0,a1,ai,ax⟩:=x
    have i3:=fun A=>T7 G (.mk a0 a1 ai ax) 1000 (A:=A) hlt
    simp only[Exp.cells]at i3
    simp only[Assign.cells,Exp.cells,cF,cI]at hd2
    simp only[e1,e4,e5,e6,hd,hd2,i2,Q1,seval]
    refine Qg (i3 _) ?_
    rintro o B' ⟨⟨t,rfl⟩,rfl⟩
    cases t with
    |true=>
     simp only[hret2,hret,Q1,seval]
     exact fin _
    |false=>
     simp only[e1,e4,e5,e6,hw2,Q1,seval]
   ·rintro i' env _ ⟨e1,e4,e5,e6,rfl⟩
    simp only[Q1,seval]
    exact⟨e1,e4,hO'⟩
  ·rintro env _ B' ⟨rfl,e1,e4,hO'⟩
   simp only[e1,e4,hw,Q1,seval]
   exact hO'
 ·rintro i env B' ⟨e1,e4,hO'⟩
  simp only[Q1,seval]
  exact WX (QU.trans hO hO')
theorem n12 (m:Model){A:Q2}(h:LtM m):Qq Tryz.prog G 12 [.agg m.cells] A (Kd A):=by
 obtain⟨n,cl,vs,ch,fs,ps⟩:=m
 obtain⟨y1,y2,y3,y4,y5,y6,y7,y8,y9,y10,y11,y12⟩:=h
 simp only at y1 y2 y3 y4 y5 y6 y7 y8 y9 y10 y11 y12
 refine Q4 l12 (fE rfl) ?_
 unfold C12
 refine Qb (fun env ds B=>∃p,ds=[]∧env 1=.ptr p 0∧B p=some (.cells [.str n,.slice 1 cl.length (cl.flatMap Zp) none,.slice 4 vs.length (vs.flatMap Var.cells) none,.slice 3 ch.length (ch.flatMap Chan.cells) none,.slice 3 fs.length (fs.flatMap Func.cells) none,.slice 4 ps.length (ps.flatMap Proc.cells) none])∧QU A B) ?_ ?_
 ·simp only[Model.cells,Qr,Q1,seval]
  exact fun p hp=>⟨p,rfl,Q0 ..,(QU.refl A).set hp (by simp)⟩
 rintro env _ B ⟨p,rfl,e1,hp,hO⟩
 have fin:∀t,U1 (some (bo t)) (Kd A) B:=fun t=>WX hO
 refine Qb (fun env ds B'=>ds=[]∧env 1=.ptr p 0∧B=B') ?_ ?_
 ·simp only[e1,hp,Q1,seval]
  refine Qg (k36 G cl 1000 (by omega)) ?_
  rintro o B ⟨⟨t,rfl⟩,rfl⟩
  cases t with
  |true=>
   simp only[Q1,seval]
   exact fin _
  |false=>
  simp only[e1,hp,Q1,seval]
  refine⟨fun _=>fin _,fun _=>⟨fun _=>fin _,fun _=>Qg (k37 G fs 3000 (by omega) y9) ?_⟩⟩
  rintro o B ⟨⟨t,rfl⟩,rfl⟩
  cases t with
  |true=>
   simp only[Q1,seval]
   exact fin _
  |false=>
  simp only[e1,hp,Q1,seval]
  exact⟨fun _=>fin _,fun _=>trivial⟩
 clear e1
 rintro env _ _ ⟨rfl,e1,rfl⟩
 simp only[Q1,seval]
 refine X3 ps.length (fun i env B'=>env 1=.ptr p 0∧env 3=i64 i∧B=B') ⟨e1,rfl,rfl⟩ ?_ ?_ ?_
 ·rintro i env _ s hi ⟨e1,e3,rfl⟩
  simp only[e1,e3,hp,Q1,seval]
  exact HN
 ·rintro i env _ FR hi ⟨e1,e3,rfl⟩ hret
  have QO:=Zg (enc:=Proc.cells) (sz:=4) (fun _=>rfl) hi
  have i1:(i:Int)<ps.length:=by omega
  have hw:IntKind.i64.wrap ((i:Int)+1)=((i+1:Nat):Int):=by rw[Qe (by omega) (by omega)];simp
  have hlt:=y12 _ (cV hi)
  have hlen:∀x:Proc,x.cells.length=4:=fun _=>rfl
  simp only[e1,e3,hp,QO,i1,hlen,Q1,seval]
  refine Qg (k38 G ps[i] hlt) ?_
  rintro o B ⟨⟨t,rfl⟩,rfl⟩
  cases t with
  |true=>
   simp only[hret,Q1,seval]
   exact fin _
  |false=>
   simp only[e1,e3,hw,Q1,seval]
 ·rintro i env _ ⟨e1,e3,rfl⟩
  simp only[Q1,seval]
  exact fin _
end
end Go.Proofs.YtcbjbgaefighcaaGreatDoor
