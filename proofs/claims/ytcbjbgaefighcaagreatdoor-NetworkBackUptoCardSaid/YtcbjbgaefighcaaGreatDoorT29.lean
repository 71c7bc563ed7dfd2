/- Part 29 of the proof. -/
import Derived.Test.YtcbjbgaefighcaaGreatDoorT0
import Derived.Test.YtcbjbgaefighcaaGreatDoorT26
import Derived.Test.YtcbjbgaefighcaaGreatDoorT28
set_option linter.all false
namespace Go.Proofs.YtcbjbgaefighcaaGreatDoor
open Go Go.Ax Go.Proofs
section
variable (G:Nat→Option (List AV))
theorem k237 (k:Int)(A:Q3):Qu Tryz.prog G 237 [i64 k] A (i64 (Zd k)) A:=by
 refine Q4 l237 (fE rfl) ?_
 simp only[BN,Q1,seval]
 refine⟨fun h=>Qb (by simp [Zd,h]) (.refl _),fun h18=>⟨fun h=>Qb (by simp [Zd,h]) (.refl _),fun h3=>⟨fun h=>Qb (by simp [Zd,h]) (.refl _),fun h4=>
  ⟨fun h=>Qb (by simp [Zd,h]) (.refl _),fun h1=>⟨fun h=>Qb (by simp [Zd,h]) (.refl _),fun h2=>⟨fun h=>Qb (by simp [Zd,h]) (.refl _),fun h19=> ?_⟩⟩⟩⟩⟩⟩
 refine Q2 (GM G k A) ?_
 simp only[Q1,seval]
 exact Qb (by simp [Zd,h18,h3,h4,h1,h2,h19]) (.refl _)
abbrev WrT (A:Q3)(b:Nat)(bs:Bs)(o:Out)(B':Q3):Prop:=o=.ret ZK∧Bd A b bs B'
def P7 (x:Exp):Prop:=∀(A B:Q3) (b:Nat) (bs:Bs),Bd A b bs B→bs.length+(Qh x).length≤140737488355328→Qt Tryz.prog G 184 [.ptr b 0,Zw x] B (WrT A b (bs++Qh x))
theorem prt_len {l:Nat}{k:Int}{t:Bs}:t.length≤(Zr l k t).length:=by
 unfold Zr;split <;> simp;omega
theorem HA {y:Exp}(hT:P7 G y){A B:Q3}{b c:Nat}{bs:Bs}(h:Bd A b bs B)(hc:A c=some (.cells [.ptr b 0])){l:Nat}(hl:bs.length+(Zr l y.kind (Qh y)).length≤140737488355328):
 Qt Tryz.prog G 236 [Zw y,i64 l,.ptr c 0] B (WrT A b (bs++Zr l y.kind (Qh y))):=by
 have hy:Zw y=.agg y.cells:=rfl
 obtain⟨k,n,i,xs⟩:=y
 have hcells:Exp.cells (.mk k n i xs)=[i64 k,.str n,i64 i,.slice 4 xs.length (Exp.cellsL xs) none]:=rfl
 have hexp:Zw (.mk k n i xs)=.agg [i64 k,.str n,i64 i,.slice 4 xs.length (Exp.cellsL xs) none]:=rfl
 refine Q4 l236 (fE rfl) ?_
 rw[hexp]
 simp only[BO,Q1,seval]
 intro d hd
 have hAd:=h.ovr.gone hd
 have h:=h.base hd (cs:=[i64 k,.str n,i64 i,.slice 4 xs.length (Exp.cellsL xs) none])
 have hcd:=Q6 hc hAd
 have hc:=(Qa A d (some (.cells [i64 k,.str n,i64 i,.slice 4 xs.length (Exp.cellsL xs) none])) hcd).trans hc
 have Zf:(A.upd d (some (.cells [i64 k,.str n,i64 i,.slice 4 xs.length (Exp.cellsL xs) none]))) d=some (.cells [i64 k,.str n,i64 i,.slice 4 xs.length (Exp.cellsL xs) none]):=Q0 ..
 generalize B.upd d (some (.cells [i64 k,.str n,i64 i,.slice 4 xs.length (Exp.cellsL xs) none]))=B at*
 have un:∀{bs B},Bd (A.upd d (some (.cells [i64 k,.str n,i64 i,.slice 4 xs.length (Exp.cellsL xs) none]))) b bs B→Bd A b bs B:=fun h=>h.un hAd
 generalize A.upd d (some (.cells [i64 k,.str n,i64 i,.slice 4 xs.length (Exp.cellsL xs) none]))=A1 at*
 refine Q2 (k237 G k _) ?_
 simp only[Q1,seval]
 have hp:Exp.kind (.mk k n i xs)=k:=rfl
 rw[hp]at hl⊢
 by_cases hlt:Zd k<l
 ·have hlt':((Zd k:Nat):Int)<(l:Int):=by omega
  have e:Zr l k (Qh (.mk k n i xs))=[40]++Qh (.mk k n i xs)++[41]:=by simp [Zr,hlt]
  rw[e]at hl⊢
  simp only[cC,cE,cL]at hl
  refine⟨fun _=> ?_,fun h=>absurd hlt' h⟩
  have hcB:=h.ovr.keep hc
  simp only[hcB,Q1,seval]
  refine Qk (SV G (c:=40) h (by omega)) ?_
  rintro o B1 ⟨rfl,h⟩
  have hcB:=h.ovr.keep hc
  have hdB:=h.ovr.keep Zf
  simp only[hcB,hdB,Q1,seval]
  rw[←hexp]
  refine Qk (hT A1 B1 b _ h (by simp;omega)) ?_
  rintro o B2 ⟨rfl,h⟩
  simp only[Xx,Q1,seval]
  refine K8.mono (d238 G (c:=41) h (by simp;omega)) ?_
  rintro pn B3 ⟨rfl,h⟩
  simp only[QQ,Q1,seval]
  exact J0 (Wk.refl _) (U2.refl _) ⟨rfl,by simpa[cU]using un h⟩
 ·have hlt':¬((Zd k:Nat):Int)<(l:Int):=by omega
  have e:Zr l k (Qh (.mk k n i xs))=Qh (.mk k n i xs):=by simp [Zr,hlt]
  rw[e]at hl⊢
  refine⟨fun h=>absurd h hlt',fun _=> ?_⟩
  have hcB:=h.ovr.keep hc
  have hdB:=h.ovr.keep Zf
  simp only[hcB,hdB,Q1,seval]
  rw[←hexp]
  refine Qk (hT A1 B b _ h hl) ?_
  rintro o B2 ⟨rfl,h⟩
  simp only[Xx,WE,QQ,Q1,seval]
  exact J0 (Wk.refl _) (U2.refl _) ⟨rfl,un h⟩
theorem Ra {sep x:Bs}{a b:List Bs}(h:a≠[]):Lib.join (a++b) sep=Lib.join a sep++Lib.joinTail sep b:=by
 obtain⟨y,r,rfl⟩:=List.exists_cons_of_ne_nil h
 rw[cF,Lib.join_cons,Lib.join_cons]
 simp [Lib.joinTail]
theorem MB {sep x:Bs}{a:List Bs}:Lib.join (a++[x]) sep=Lib.join a sep++((if a=[]then[]else sep)++x):=by
 by_cases h:a=[]
 ·subst h;simp [Lib.join_one,Lib.join_nil]
 ·rw[Ra (x:=x) h,fD h];simp [Lib.joinTail]
theorem DZ {sep:Bs}{a b:List Bs}:(Lib.join a sep).length≤(Lib.join (a++b) sep).length:=by
 by_cases h:a=[]
 ·subst h;simp [Lib.join_nil]
 ·rw[Ra (x:=[]) h,cC];omega
theorem NC:∀x:Exp,x.cells[0]? =some (i64 x.kind)
 | .mk .. =>rfl
theorem NB:∀x:Exp,x.cells[2]? =some (i64 x.int)
 | .mk .. =>rfl
theorem MF {k:Int}{n:Bs}{i:Int}{m:Nat}(h:Yf k n i m=true):ZJ i=true∧∀c,Zo k=some (some c)→m=c:=by
 simp only[Yf,cD]at h
 refine⟨h.1.2,fun c hc=> ?_⟩
 have:=h.1.1.1
 rw[hc]at this
 simpa using this
theorem Ew (hG:Gl G):∀(x:Exp),ZC x=true→VS x→P7 G x:=by
 intro x
 induction hn:SizeOf.sizeOf x using Nat.strongRecOn generalizing x with
 |_ sz ih=>
 intro hwf hlt A B b bs h hl
 obtain⟨k,n,i,xs⟩:=x
 simp only[ZC,cD]at hwf
 obtain⟨hhd,hxs⟩:=hwf
 simp only[VS]at hlt
 obtain⟨lt1,lt2,lt3⟩:=hlt
 obtain⟨hin,har⟩:=MF hhd
 have hT:∀y∈xs,P7 G y:=fun y hy=>ih _ (by
  have:=cY hy
  rw[←hn];simp only[Exp.mk.sizeOf_spec];omega) y rfl (by rw[Xb]at hxs;exact cH.1 hxs y hy) (Xd lt3 y hy)
 have hexp:Zw (.mk k n i xs)=.agg [i64 k,.str n,i64 i,.slice 4 xs.length (Exp.cellsL xs) none]:=rfl
 refine Q4 l184 (fE rfl) ?_
 rw[hexp]
 unfold As
 refine Qd (fun env ds B=>∃c d,env 2=.ptr c 0∧env 3=.ptr d 0∧ds=[]∧A c=none∧(A.upd c (some (.cells [.ptr b 0]))) d=none∧Bd ((A.upd c (some (.cells [.ptr b 0]))).upd d (some (.cells [i64 k,.str n,i64 i,.slice 4 xs.length (Exp.cellsL xs) none]))) b bs B) ?_ ?_
 ·simp only[Q1,seval]
  intro c hc d hd
  have h1:=h.base hc (cs:=[.ptr b 0])
  exact⟨c,d,rfl,rfl,h.ovr.gone hc,h1.ovr.gone hd,h1.base hd⟩
 clear h
 rintro env ds B ⟨c,d,e2,e3,rfl,hc,hd,h⟩
 have un:∀{bs B},Bd ((A.upd c (some (.cells [.ptr b 0]))).upd d (some (.cells [i64 k,.str n,i64 i,.slice 4 xs.length (Exp.cellsL xs) none]))) b bs B→Bd A b bs B:=fun h=>(h.un hd).un hc
 have Zf:((A.upd c (some (.cells [.ptr b 0]))).upd d (some (.cells [i64 k,.str n,i64 i,.slice 4 xs.length (Exp.cellsL xs) none]))) d=some (.cells [i64 k,.str n,i64 i,.slice 4 xs.length (Exp.cellsL xs) none]):=Q0 ..
 have hc1:((A.upd c (some (.cells [.ptr b 0]))).upd d (some (.cells [i64 k,.str n,i64 i,.slice 4 xs.length (Exp.cellsL xs) none]))) c=some (.cells [.ptr b 0]):=by
  rw[Q5 (Q9 hd).1.symm,Q0]
 generalize((A.upd c (some (.cells [.ptr b 0]))).upd d (some (.cells [i64 k,.str n,i64 i,.slice 4 xs.length (Exp.cellsL xs) none])))=A1 at*
 have hcB:=h.ovr.keep hc1
 have hdB:=h.ovr.keep Zf
 have htx:Qh (.mk k n i xs)=V0 k n i xs (xs.map Qh):=by rw[Qh,WA]
 rw[htx]at hl⊢
 simp only[e2,e3,hcB,hdB,Q1,seval]
 refine⟨fun h1=> ?_,fun h1=>⟨fun h2=> ?_,fun h2=>⟨fun h3=> ?_,fun h3=>⟨fun h4=> ?_,fun h4=>⟨fun h18=> ?_,fun h18=>⟨fun h19=> ?_,fun h19=> ?_⟩⟩⟩⟩⟩⟩
 ·have e:V0 k n i xs (xs.map Qh)=Lib.itoa i:=by simp [V0,h1]
  rw[e]at hl⊢
  simp only[ZJ,dZ]at hin
  refine Q2 (B7 hG i _ (by omega) (by omega)) ?_
  simp only[hcB,QW,Q1,seval]
  refine Qk (U1 G h hl) ?_
  rintro o B' ⟨rfl,h⟩
  simp only[QW,QQ,Q1,seval]
  exact J0 (Wk.refl _) (U2.refl _) ⟨rfl,un h⟩
 ·have e:V0 k n i xs (xs.map Qh)=n:=by simp [V0,h2]
  rw[e]at hl⊢
  refine Qk (U1 G h hl) ?_
  rintro o B' ⟨rfl,h⟩
  simp only[QQ,Q1,seval]
  exact J0 (Wk.refl _) (U2.refl _) ⟨rfl,un h⟩
 ·have hx1:=har 1 (by simp [Zo,h3])
  obtain⟨x0,rfl⟩:=fZ.1 hx1
  have e:V0 k n i [x0] ([x0].map Qh)=[45]++Zr (if x0.kind=1∧0≤x0.int then 8 else 6) x0.kind (Qh x0):=by simp [V0,h3]
  rw[e]at hl⊢
  simp only[cC,cE,cL]at hl
  have hT0:=hT x0 (by simp)
  refine Qk (SV G (c:=45) h (by omega)) ?_
  rintro o B ⟨rfl,h⟩
  have hcB:=h.ovr.keep hc1
  have hdB:=h.ovr.keep Zf
  simp only[Exp.cellsL]at hdB
  simp only[e2,e3,hcB,hdB,Exp.cells_len,NC,NB,Q1,seval]
  refine fun q hq=> ?_
  have hA1q:=h.ovr.gone hq
  have h:=h.base hq (cs:=x0.cells)
  have hc1:=(Qa A1 q (some (.cells x0.cells)) (Q6 hc1 hA1q)).trans hc1
  have Zf:=(Qa A1 q (some (.cells x0.cells)) (Q6 Zf hA1q)).trans Zf
  have un:∀{bs B},Bd (A1.upd q (some (.cells x0.cells))) b bs B→Bd A b bs B:=fun h=>un (h.un hA1q)
  have hq1:(A1.upd q (some (.cells x0.cells))) q=some (.cells x0.cells):=Q0 ..
  generalize B.upd q (some (.cells x0.cells))=B at*
  generalize A1.upd q (some (.cells x0.cells))=A1 at*
  have hcB:=h.ovr.keep hc1
  have hdB:=h.ovr.keep Zf
  have hqB:=h.ovr.keep hq1
  simp only[Exp.cellsL]at hdB
  have fin:∀{l:Nat},(if x0.kind=1∧0≤x0.int then 8 else 6)=l→Qt Tryz.prog G 236 [Zw x0,i64 l,.ptr c 0] B (WrT A1 b (bs++[45]++Zr (if x0.kind=1∧0≤x0.int then 8 else 6) x0.kind (Qh x0))):=fun{l} e=>by
   rw[e]at hl⊢
   exact HA G hT0 h hc1 (by simp only[cC,cE,cL];omega)
  have done:∀{C:Cx},True:=fun{_}=>trivial
  simp only[e2,e3,hcB,hdB,hqB,Exp.cells_len,NC,NB,Q1,seval]
  refine⟨fun hk=>⟨fun hi=> ?_,fun hi=> ?_⟩,fun hk=> ?_⟩
  ·refine Qk (fin (l:=8) (by simp [hk,hi])) ?_
   rintro o B' ⟨rfl,h⟩
   simp only[QQ,Q1,seval]
   exact J0 (Wk.refl _) (U2.refl _) ⟨rfl,by simpa using un h⟩
  ·refine Qk (fin (l:=6) (by simp [hi])) ?_
   rintro o B' ⟨rfl,h⟩
   simp only[QQ,Q1,seval]
   exact J0 (Wk.refl _) (U2.refl _) ⟨rfl,by simpa using un h⟩
  ·refine Qk (fin (l:=6) (by simp [hk])) ?_
   rintro o B' ⟨rfl,h⟩
   simp only[QQ,Q1,seval]
   exact J0 (Wk.refl _) (U2.refl _) ⟨rfl,by simpa using un h⟩
 ·have hx1:=har 1 (by simp [Zo,h4])
  obtain⟨x0,rfl⟩:=fZ.1 hx1
  have e:V0 k n i [x0] ([x0].map Qh)=[33]++Zr 6 x0.kind (Qh x0):=by simp [V0,h4]
  rw[e]at hl⊢
  simp only[cC,cE,cL]at hl
  have hT0:=hT x0 (by simp)
  refine Qk (SV G (c:=33) h (by omega)) ?_
  rintro o B ⟨rfl,h⟩
  have hcB:=h.ovr.keep hc1
  have hdB:=h.ovr.keep Zf
  simp only[Exp.cellsL]at hdB
  simp only[e2,e3,hcB,hdB,Exp.cells_len,Q1,seval]
  refine Qk (HA G hT0 h hc1 (l:=6) (by simp only[cC,cE,cL];omega)) ?_
  rintro o B' ⟨rfl,h⟩
  simp only[QQ,Q1,seval]
  exact J0 (Wk.refl _) (U2.refl _) ⟨rfl,by simpa using un h⟩
 ·have hx1:=har 3 (by simp [Zo,h18])
  obtain⟨x0,x1,x2,rfl⟩:∃a b c,xs=[a,b,c]:=by
   match xs,hx1 with
   |[a,b,c],_=>exact⟨_,_,_,rfl⟩
  have e:V0 k n i [x0,x1,x2] ([x0,x1,x2].map Qh)=Zr 1 x0.kind (Qh x0)++[32,63,32]++Qh x1++[32,58,32]++Qh x2:=by simp [V0,h18]
  rw[e]at hl⊢
  simp only[cC,cE,cL]at hl
  have hd8:(Exp.cells x0++(Exp.cells x1++Exp.cells x2)).drop 8=Exp.cells x2:=by
   rw[←cU];exact List.drop_left' (by simp [Exp.cells_len])
  have hd4:(Exp.cells x0++(Exp.cells x1++Exp.cells x2)).drop 4=Exp.cells x1++Exp.cells x2:=List.drop_left' (Exp.cells_len x0)
  have hz2:4≤x2.cells.length:=by rw[Exp.cells_len];exact fG _
  simp only[Exp.cellsL]at hdB
  simp only[e2,e3,hcB,hdB,Exp.cellsL,Exp.cells_len,Q1,seval]
  refine Qk (HA G (hT x0 (by simp)) h hc1 (l:=1) (by omega)) ?_
  rintro o B ⟨rfl,h⟩
  have hcB:=h.ovr.keep hc1
  have hdB:=h.ovr.keep Zf
  simp only[Exp.cellsL]at hdB
  simp only[e2,e3,hcB,hdB,Q1,seval]
  refine Qk (U1 G h (by simp;omega)) ?_
  rintro o B ⟨rfl,h⟩
  have hcB:=h.ovr.keep hc1
  have hdB:=h.ovr.keep Zf
  simp only[Exp.cellsL]at hdB
  simp only[e2,e3,hcB,hdB,hd4,Exp.cells_len,QW,Q1,seval]
  refine Qk (hT x1 (by simp) A1 B b _ h (by simp;omega)) ?_
  rintro o B ⟨rfl,h⟩
  have hcB:=h.ovr.keep hc1
  have hdB:=h.ovr.keep Zf
  simp only[Exp.cellsL]at hdB
  simp only[e2,e3,hcB,hdB,QW,Q1,seval]
  refine Qk (U1 G h (by simp;omega)) ?_
  rintro o B ⟨rfl,h⟩
  have hcB:=h.ovr.keep hc1
  have hdB:=h.ovr.keep Zf
  simp only[Exp.cellsL]at hdB
  simp only[e2,e3,hcB,hdB,hd8,Exp.cells_len,Exp.cells_take,fC hz2,QW,Q1,seval]
  refine Qk (hT x2 (by simp) A1 B b _ h (by simp;omega)) ?_
  rintro o B ⟨rfl,h⟩
  simp only[QW,QQ,Q1,seval]
  exact J0 (Wk.refl _) (U2.refl _) ⟨rfl,by simpa[cU]using un h⟩
 ·have e:V0 k n i xs (xs.map Qh)=n++[40]++Lib.join (xs.map Qh) [44,32]++[41]:=by simp [V0,h19]
  rw[e]at hl⊢
  simp only[cC,cE,cL]at hl
  refine⟨by omega,Qk (U1 G h (by simp;omega)) ?_⟩
  rintro o B ⟨rfl,h⟩
  have hcB:=h.ovr.keep hc1
  have hdB:=h.ovr.keep Zf
  simp only[e2,e3,hcB,hdB,Q1,seval]
  refine Qv (fun m env ds B=>∃pre post,xs=pre++post∧m=post.length∧env 2=.ptr c 0∧env 124=.slice 4 xs.length (Exp.cellsL xs) none∧env 125=i64 xs.length∧env 126=i64 pre.length∧ds=[]∧Bd A1 b (bs++(n++[40]++Lib.join (pre.map Qh) [44,32])) B) xs.length
   ⟨[],xs,rfl,rfl,e2,rfl,rfl,rfl,rfl,by simpa[Lib.join_nil]using h⟩ ?_
  clear h hcB hdB e2 e3
  rintro m env ds B ⟨pre,post,hpp,rfl,e2,e124,e125,e126,rfl,h⟩
  have hl2:(pre.length:Int)+post.length=xs.length:=by rw[hpp];simp
  have hcB:=h.ovr.keep hc1
  cases post with
  |nil=>
   have hlt:¬((pre.length:Int)<xs.length):=by simp at hl2;omega
   have hpl:xs=pre:=by rw[hpp];simp
   rw[←hpl]at h
   simp only[e2,e124,e125,e126,hcB,Q1,seval]
   refine⟨fun h=>absurd h hlt,fun _=>Qk (SV G (c:=41) h (by simp;omega)) ?_⟩
   rintro o B ⟨rfl,h⟩
   simp only[QQ,Q1,seval]
   exact J0 (Wk.refl _) (U2.refl _) ⟨rfl,by simpa[cU]using un h⟩
  |cons x post=>
   have hlt:((pre.length:Int)<xs.length):=by simp at hl2;omega
   have e5:IntKind.i64.wrap ((pre.length:Int)+1)=((pre++[x]).length:Nat):=by rw[Qg (by omega) (by omega)];simp
   simp only[e2,e124,e125,e126,hcB,Q1,seval]
   refine⟨fun _=>⟨hlt,?_⟩,fun h=>absurd hlt h⟩
   have hd:(Exp.cellsL xs).drop (pre.length*4)=Exp.cells x++post.flatMap Exp.cells:=by rw[Exp.cellsL_eq,hpp,Zg Exp.cells_len];simp
   rw[hd,dM (Exp.cells_len x)]
   refine⟨by simp [Exp.cells_len],fun q hq=> ?_⟩
   rw[H7 (Exp.cells_len x) rfl (Exp.cells_one x),QZ]
   have hA1q:=h.ovr.gone hq
   have h:=h.base hq (cs:=x.cells)
   have hc1:=(Qa A1 q (some (.cells x.cells)) (Q6 hc1 hA1q)).trans hc1
   have un1:∀{bs B},Bd (A1.upd q (some (.cells x.cells))) b bs B→Bd A1 b bs B:=fun h=>h.un hA1q
   have hq1:(A1.upd q (some (.cells x.cells))) q=some (.cells x.cells):=Q0 ..
   generalize B.upd q (some (.cells x.cells))=B at*
   generalize A1.upd q (some (.cells x.cells))=A2 at*
   have hcB:=h.ovr.keep hc1
   have hqB:=h.ovr.keep hq1
   have hjn:(Lib.join ((pre++[x]).map Qh) [44,32]).length≤(Lib.join (xs.map Qh) [44,32]).length:=by
    rw[hpp,show pre++x::post=(pre++[x])++post by simp,lH (l₁:=pre++[x])];exact DZ
   rw[lH,List.map_singleton,MB]at hjn
   have next:∀B',Bd A2 b (bs++(n++[40]++Lib.join (pre.map Qh) [44,32])++(if pre=[]then[]else[44,32])++Qh x) B'→Bd A1 b (bs++(n++[40]++Lib.join ((pre++[x]).map Qh) [44,32])) B':=fun B' h=>by
    rw[lH,List.map_singleton,MB]
    have:=un1 h
    simpa[cU]using this
   have hTx:=hT x (by rw[hpp];simp)
   simp only[e2,e124,e125,e126,hcB,hqB,Exp.cells_take,Q1,seval]
   simp only[cC]at hjn
   refine⟨fun hpos=> ?_,fun hpos=> ?_⟩
   ·have hpne:pre≠[]:=fun e=>by subst e;simp at hpos
    have hif:(if pre.map Qh=[]then([]:Bs)else[44,32])=[44,32]:=fD (by simpa using hpne)
    rw[hif]at hjn
    rw[fD hpne]at next
    refine Qk (U1 G h (by simp at hjn⊢;omega)) ?_
    rintro o B ⟨rfl,h⟩
    have hcB:=h.ovr.keep hc1
    have hqB:=h.ovr.keep hq1
    simp only[e2,e124,e125,e126,hcB,hqB,Exp.cells_take,Exp.cells_len,Q1,seval]
    refine Qk (hTx A2 B b _ h (by simp at hjn⊢;omega)) ?_
    rintro o B ⟨rfl,h⟩
    simp only[e2,e124,e125,e126,e5,Q1,seval]
    exact⟨post.length,by simp,pre++[x],post,by simp [hpp],rfl,rfl,next _ h⟩
   ·have hpne:pre=[]:=by
     cases pre with
     |nil=>rfl
     |cons a r=>exact absurd (by simp) hpos
    have hif:(if pre.map Qh=[]then([]:Bs)else[44,32])=[]:=fC (by simpa using hpne)
    rw[hif]at hjn
    rw[fC hpne]at next
    refine Qk (hTx A2 B b _ h (by simp at hjn⊢;omega)) ?_
    rintro o B ⟨rfl,h⟩
    simp only[e2,e124,e125,e126,e5,Q1,seval]
    exact⟨post.length,by simp,pre++[x],post,by simp [hpp],rfl,rfl,next _ (by simpa using h)⟩
 ·have h517:5≤k∧k≤17:=Decidable.byContradiction fun e=>by
   have:Zo k=none:=by simp only[Zo,h1,h2,h3,h4,h18,h19,e,or_self,if_false]
   simp [Yf,this]at hhd
  have hx1:=har 2 (by simp only[Zo,h1,h2,h3,h4,h517,or_self,if_false,and_self,if_true])
  obtain⟨x0,x1,rfl⟩:∃a b,xs=[a,b]:=by
   match xs,hx1 with
   |[a,b],_=>exact⟨_,_,rfl⟩
  have hpr:Zd k=(J4 k).2:=by simp [Zd,h1,h2,h3,h4,h18,h19]
  have e:V0 k n i [x0,x1] ([x0,x1].map Qh)=Zr (if Zd k=3 then 4 else Zd k) x0.kind (Qh x0)++[32]++(J4 k).1++[32]++Zr (Zd k+1) x1.kind (Qh x1):=by simp [V0,h1,h2,h3,h4,h18,h19]
  rw[e,hpr]at hl⊢
  simp only[cC,cE,cL]at hl
  have hd4:(Exp.cells x0++Exp.cells x1).drop 4=Exp.cells x1:=List.drop_left' (Exp.cells_len x0)
  simp only[Exp.cellsL,cN]at Zf hdB
  have ho5:(J4 k).2≤5:=by
   have:k=5∨k=6∨k=7∨k=8∨k=9∨k=10∨k=11∨k=12∨k=13∨k=14∨k=15∨k=16∨k=17:=by omega
   rcases this with rfl|rfl|rfl|rfl|rfl|rfl|rfl|rfl|rfl|rfl|rfl|rfl|rfl <;> decide
  refine Q2 (GM G k _) ?_
  generalize hop:J4 k=op at*
  obtain⟨sg,rk⟩:=op
  simp only at hl ho5⊢
  have e6:IntKind.i64.wrap ((rk:Int)+1)=((rk+1:Nat):Int):=by rw[Qg (by omega) (by omega)];rfl
  simp only[e2,e3,hcB,hdB,Exp.cells_len,Exp.cells_take,e6,Q1,seval]
  refine⟨fun h3=> ?_,fun h3=> ?_⟩
  ·have hrk:rk=3:=by omega
   have hif:(if rk=3 then 4 else rk)=rk+1:=by rw[fC hrk,hrk]
   refine Qk (HA G (hT x0 (by simp)) h hc1 (l:=rk+1) (by rw[hif]at hl;omega)) ?_
   rintro o B ⟨rfl,h⟩
   have hcB:=h.ovr.keep hc1
   have hdB:=h.ovr.keep Zf
   rw[hif]at hl⊢
   simp only[e2,e3,hcB,hdB,Exp.cells_len,Exp.cells_take,e6,Q1,seval]
   refine⟨by omega,by omega,Qk (U1 G h (by simp;omega)) ?_⟩
   rintro o B ⟨rfl,h⟩
   have hcB:=h.ovr.keep hc1
   have hdB:=h.ovr.keep Zf
   simp only[e2,e3,hcB,hdB,hd4,Exp.cells_len,Exp.cells_take,e6,Q1,seval]
   refine Qk (HA G (hT x1 (by simp)) h hc1 (l:=rk+1) (by simp;omega)) ?_
   rintro o B ⟨rfl,h⟩
   simp only[QQ,Q1,seval]
   exact J0 (Wk.refl _) (U2.refl _) ⟨rfl,by simpa[cU]using un h⟩
  ·have hif:(if rk=3 then 4 else rk)=rk:=fD (by omega)
   refine Qk (HA G (hT x0 (by simp)) h hc1 (l:=rk) (by rw[hif]at hl;omega)) ?_
   rintro o B ⟨rfl,h⟩
   have hcB:=h.ovr.keep hc1
   have hdB:=h.ovr.keep Zf
   rw[hif]at hl⊢
   simp only[e2,e3,hcB,hdB,Exp.cells_len,Exp.cells_take,e6,Q1,seval]
   refine⟨by omega,by omega,Qk (U1 G h (by simp;omega)) ?_⟩
   rintro o B ⟨rfl,h⟩
   have hcB:=h.ovr.keep hc1
   have hdB:=h.ovr.keep Zf
   simp only[e2,e3,hcB,hdB,hd4,Exp.cells_len,Exp.cells_take,e6,Q1,seval]
   refine Qk (HA G (hT x1 (by simp)) h hc1 (l:=rk+1) (by simp;omega)) ?_
   rintro o B ⟨rfl,h⟩
   simp only[QQ,Q1,seval]
   exact J0 (Wk.refl _) (U2.refl _) ⟨rfl,by simpa[cU]using un h⟩
end
open Go.RowKit
theorem OT:∀d:Nat,Lib.repeatL [9] d=J3 d
 |0=>rfl
 |d+1=>by
  have:=OT d
  simp only[Lib.repeatL,J3,List.replicate_succ]at this⊢
  simpa using this
theorem Mu {κ:Kn}{A:Q3}{w:World}{G:Nat→Option (List AV)}(hr:Rel G κ A w){g:Nat}:∀(l:List Bs) (o:Nat),Zx κ g (l.flatMap Zl) o→∀j x,l[j]? =some x→w.cell? ⟨g,o+j,none⟩=some (.string ⟨x.toArray⟩)
 |[],_,_,_,_,h=>by simp at h
 |c::l,o,h,j,x,hx=>by
  simp only[dD,Zl,cF,cI,Zx]at h
  obtain⟨⟨y,h1,h2⟩,h3⟩:=h
  cases j with
  |zero=>
   simp only[lL,cA]at hx;subst hx
   rw[UF h2]at h1
   exact hr.imm _ _ _ h1
  |succ j=>
   have:=Mu hr l (o+1) h3 j x (by simpa using hx)
   rw[show o+(j+1)=o+1+j from by omega];exact this
theorem QB {a b:Bs}(h:a.length+b.length≤9223372036854775807):Qf .add .num (.str a) (.str b)=some (.str (a++b)):=by
 simp only[Qf,ZY];rw[fC h]
theorem Z7.unset {A B:Q3}{d:Nat}{cs:List AV}(h:Z7 (A.upd d (some (.cells cs))) B)(hd:A d=none):Z7 A B:=Z7.trans ((Z7.refl A).set hd (by simp)) h
section
variable (G:Nat→Option (List AV))
theorem f183 (d:Nat)(A:Q3)(hd:d≤140737488355328):Qu Tryz.prog G 183 [.str [9],i64 d] A (.str (J3 d)) A:=
 Xk (by kernel_rfl) fun κ w hr vs hvs=>by
  obtain⟨x,y,rfl,hx,hy⟩:=Xi hvs
  rw[UF hx,Y0 hy]
  refine(Tryz.strings_Repeat ⟨#[9]⟩ d w (by omega) (by simp [ByteArray.size];omega)).mono ?_
  rintro e w' ⟨rfl,hb⟩
  refine⟨hb,_,rfl,?_⟩
  simp only[Qc]
  rw[←OT]
theorem f42 (l:List Bs)(sep:Bs){n:Nat}{cs:List AV}{t:Option Nat}(hn:n=l.length)(hcs:cs=l.flatMap Zl)(A:Q3)(hl:l.length≤140737488355328)(hj:(Lib.join l sep).length≤140737488355328):Qu Tryz.prog G 42 [.slice 1 n cs t,.str sep] A (.str (Lib.join l sep)) A:=
 Xk (by kernel_rfl) fun κ w hr vs hvs=>by
  subst hn hcs
  obtain⟨x,y,rfl,hx,hy⟩:=Xi hvs
  rw[UF hy]
  simp only[Qc]at hx
  have hmap:(l.map fun x=>(⟨x.toArray⟩:ByteArray)).map (·.data.toList)=l:=by simp [List.map_map,Function.comp_def]
  have nilc:∀(a:Option Addr) (c:Nat),l=[]→Calls Tryz.prog 42 #[.slice a l.length c,.string ⟨sep.toArray⟩] w fun e w'=>Below w.heap.size w w'∧∃u,e=.returned u∧Qc κ (.str (Lib.join l sep)) u:=fun a c h0=>by
   subst h0
   refine(Tryz.strings_Join_none a c ⟨sep.toArray⟩ w).mono ?_
   rintro e w' ⟨rfl,rfl⟩
   exact⟨.refl _ _,_,rfl,by simp [Qc,Lib.join_nil]⟩
  rcases hx with⟨_,h1,_,a,rfl⟩|⟨b,o,cap,rfl,hcap,_,hc,_⟩
  ·have:=nilc a 0 (fJ.1 h1)
   rw[h1]at this;exact this
  ·by_cases h0:l=[]
   ·exact nilc _ _ h0
   have hcell:=Mu hr l o hc
   have hblk:b<w.heap.size:=by
    obtain⟨x,r,rfl⟩:=List.exists_cons_of_ne_nil h0
    have:=hcell 0 x rfl
    rcases fH b w.heap.size with h|h
    ·exact h
    ·simp [World.cell?,lD h]at this
   have:=Tryz.strings_Join b o cap (l.map fun x=>(⟨x.toArray⟩:ByteArray)) ⟨sep.toArray⟩ w (fun j x hx=>by
    rw[List.getElem?_map,cG]at hx
    obtain⟨y,hy,rfl⟩:=hx
    exact hcell j y hy) hblk (by simpa using hl) (by simpa using hcap) (by rw[hmap];simpa using hj)
   rw[hmap,lG]at this
   refine this.mono ?_
   rintro e w' ⟨rfl,hb⟩
   exact⟨hb,_,rfl,by simp [Qc]⟩
theorem Pb {d:Nat}{k:Int}{n:Bs}{v:Exp}{b e:List Stmt}:(J3 d).length+(Qh v).length+2≤(Vq d (.mk k n v b e)).length:=by
 simp only[Vq,cC]
 split
 ·simp;omega
 ·simp;omega
theorem ZP (d:Nat):(J3 d).length=d:=by simp [J3]
def EG (d:Nat)(l:List Stmt):Prop:=∀(A B:Q3) (b:Nat) (bs:Bs),Bd A b bs B→d≤140737488355328→bs.length+(Zu d l).length≤140737488355328→Qt Tryz.prog G 108 [.ptr b 0,.slice 8 l.length (Stmt.cellsL l) none,i64 d] B (WrT A b (bs++Zu d l))
theorem HD {d:Nat}{a b:List Stmt}:Zu d (a++b)=Zu d a++Zu d b:=by simp only[OE,List.flatMap_append]
theorem yH (hG:Gl G):∀(l:List Stmt) (d:Nat),UX l=true→K4 l→l.length<2^60→EG G d l:=by
 intro l
 induction hn:SizeOf.sizeOf l using Nat.strongRecOn generalizing l with
 |_ sz ih=>
 intro d hwf hlt hll A B b bs h hd hl
 refine Q4 l108 (fE rfl) ?_
 simp only[qQ,Q1,seval]
 refine Q2 (f183 G d _ hd) ?_
 simp only[Q1,seval]
 refine Qv (fun m env ds B=>∃pre post,l=pre++post∧m=post.length∧env 0=.ptr b 0∧env 2=i64 d∧env 6=.str (J3 d)∧env 11=.slice 8 l.length (Stmt.cellsL l) none∧env 12=i64 l.length∧env 13=i64 pre.length∧ds=[]∧Bd A b (bs++Zu d pre) B) l.length
  ⟨[],l,rfl,rfl,rfl,rfl,rfl,rfl,rfl,rfl,rfl,by simpa[Zu]using h⟩ ?_
 clear h
 rintro m env ds B ⟨pre,post,hpp,rfl,e0,e2,e6,e11,e12,e13,rfl,h⟩
 have hl2:(pre.length:Int)+post.length=l.length:=by rw[hpp];simp
 cases post with
 |nil=>
  have hlt:¬((pre.length:Int)<l.length):=by simp at hl2;omega
  have hpl:l=pre:=by rw[hpp];simp
  rw[←hpl]at h
  simp only[e0,e2,e6,e11,e12,e13,QQ,Q1,seval]
  exact⟨fun h=>absurd h hlt,fun _=>J0 (Wk.refl _) (U2.refl _) ⟨rfl,h⟩⟩
 |cons x post=>
  have hlti:((pre.length:Int)<l.length):=by simp at hl2;omega
  have e5:IntKind.i64.wrap ((pre.length:Int)+1)=((pre++[x]).length:Nat):=by rw[Qg (by omega) (by omega)];simp
  have hmem:x∈l:=by rw[hpp];simp
  have hx:=Wz l▸hwf
  have hwx:=cH.1 hx x hmem
  have hltx:=Xc hlt x hmem
  have hszx:=cY hmem
  have htot:bs.length+(Zu d pre).length+(Vq d x).length≤140737488355328:=by
   rw[hpp,show pre++x::post=pre++[x]++post by simp,HD,HD]at hl
   simp only[Zu,cC,cN]at hl
   omega
  have next:∀B',Bd A b (bs++Zu d pre++Vq d x) B'→Bd A b (bs++Zu d (pre++[x])) B':=fun B' h=>by
   rw[HD];simpa[Zu,cU]using h
  simp only[e0,e2,e6,e11,e12,e13,Q1,seval]
  refine⟨fun _=>⟨hlti,?_⟩,fun h=>absurd hlti h⟩
  have hdr:(Stmt.cellsL l).drop (pre.length*8)=Stmt.cells x++post.flatMap Stmt.cells:=by rw[Stmt.cellsL_eq,hpp,Zg Stmt.cells_len];simp
  rw[hdr,dM (Stmt.cells_len x)]
  refine⟨by simp [Stmt.cells_len],fun q hq=> ?_⟩
  obtain⟨k,n,v,bo',el⟩:=x
  obtain⟨vk,vn,vi,vs⟩:=v
  simp only[Stmt.cells,Exp.cells,e0,e2,e6,e11,e12,e13,Q1,seval]
  have hAq:=h.ovr.gone hq
  have h:=h.base hq (cs:=[i64 k,.str n,i64 vk,.str vn,i64 vi,.slice 4 vs.length (Exp.cellsL vs) none,.slice 8 bo'.length (Stmt.cellsL bo') none,.slice 8 el.length (Stmt.cellsL el) none])
  have un:∀{bs B},Bd (A.upd q (some (.cells [i64 k,.str n,i64 vk,.str vn,i64 vi,.slice 4 vs.length (Exp.cellsL vs) none,.slice 8 bo'.length (Stmt.cellsL bo') none,.slice 8 el.length (Stmt.cellsL el) none]))) b bs B→Bd A b bs B:=fun h=>h.un hAq
  have hq1:(A.upd q (some (.cells [i64 k,.str n,i64 vk,.str vn,i64 vi,.slice 4 vs.length (Exp.cellsL vs) none,.slice 8 bo'.length (Stmt.cellsL bo') none,.slice 8 el.length (Stmt.cellsL el) none]))) q=some (.cells [i64 k,.str n,i64 vk,.str vn,i64 vi,.slice 4 vs.length (Exp.cellsL vs) none,.slice 8 bo'.length (Stmt.cellsL bo') none,.slice 8 el.length (Stmt.cellsL el) none]):=Q0 ..
  generalize B.upd q (some (.cells [i64 k,.str n,i64 vk,.str vn,i64 vi,.slice 4 vs.length (Exp.cellsL vs) none,.slice 8 bo'.length (Stmt.cellsL bo') none,.slice 8 el.length (Stmt.cellsL el) none]))=B at*
  generalize A.upd q (some (.cells [i64 k,.str n,i64 vk,.str vn,i64 vi,.slice 4 vs.length (Exp.cellsL vs) none,.slice 8 bo'.length (Stmt.cellsL bo') none,.slice 8 el.length (Stmt.cellsL el) none]))=A1 at*
  have hvE:=Pb (d:=d) (k:=k) (n:=n) (v:=.mk vk vn vi vs) (b:=bo') (e:=el)
  rw[ZP]at hvE
  simp only[Uq,cD]at hwx
  simp only[KO]at hltx
  obtain⟨lt1,lt2,lt3,lt4,lt5,lt6⟩:=hltx
  have hTv:=Ew G hG (.mk vk vn vi vs) hwx.1.1.2 lt2
  have hTb:=ih _ (by rw[←hn];simp only[Stmt.mk.sizeOf_spec]at hszx;omega) bo' rfl (d+1) hwx.1.2 lt5 lt3
  have hTe:=ih _ (by rw[←hn];simp only[Stmt.mk.sizeOf_spec]at hszx;omega) el rfl (d+1) hwx.2 lt6 lt4
  have hexp:Zw (.mk vk vn vi vs)=.agg [i64 vk,.str vn,i64 vi,.slice 4 vs.length (Exp.cellsL vs) none]:=rfl
  have e7:IntKind.i64.wrap ((d:Int)+1)=((d+1:Nat):Int):=by rw[Qg (by omega) (by omega)];rfl
  have htS:Vq d (.mk k n (.mk vk vn vi vs) bo' el)=J3 d++(Yt k n++(Qh (.mk vk vn vi vs)++(if k=3∨k=4 then[41,32,123,10]++(Zu (d+1) bo'++((if el.isEmpty then[]else J3 d++([125,32,101,108,115,101,32,123,10]++Zu (d+1) el))++(J3 d++[125,10])))else[59,10]))):=by rw[Vq]
  rw[htS]at htot next
  simp only[cC,ZP]at htot
  refine Qk (U1 G h (by simp [ZP];omega)) ?_
  rintro o B ⟨rfl,h⟩
  simp only[H9,Oz]
  refine Qd (fun env ds B=>env 0=.ptr b 0∧env 2=i64 d∧env 6=.str (J3 d)∧env 8=.ptr q 0∧env 11=.slice 8 l.length (Stmt.cellsL l) none∧env 12=i64 l.length∧env 13=i64 pre.length∧ds=[]∧Bd A1 b (bs++Zu d pre++J3 d++Yt k n) B) ?_ ?_
  ·have hqB:=h.ovr.keep hq1
   have hh:Yt k n=if k=1 then[118,97,114,32]++n++[32,61,32]else if k=2 then n++[32,61,32]else if k=5 then[114,101,116,117,114,110,32]else if k=3 then[105,102,32,40]else if k=4 then[119,104,105,108,101,32,40]else[]:=rfl
   simp only[e0,e2,e6,e11,e12,e13,hqB,Q1,seval]
   refine⟨fun k1=> ?_,fun k1=>⟨fun k2=> ?_,fun k2=>⟨fun k5=> ?_,fun k5=>⟨fun k3=> ?_,fun k3=>⟨fun k4=> ?_,fun k4=> ?_⟩⟩⟩⟩⟩
   ·have e:Yt k n=[118,97,114,32]++n++[32,61,32]:=by simp [Yt,k1]
    refine⟨by omega,by omega,Qk (U1 G h (by rw[e]at htot;simp [ZP]at htot⊢;omega)) ?_⟩
    rintro o B ⟨rfl,h⟩
    simp only[e0,e2,e6,e11,e12,e13,Q1,seval]
    rw[e];simpa[cU]using h
   ·have e:Yt k n=n++[32,61,32]:=by simp [Yt,k2]
    refine⟨by omega,Qk (U1 G h (by rw[e]at htot;simp [ZP]at htot⊢;omega)) ?_⟩
    rintro o B ⟨rfl,h⟩
    simp only[e0,e2,e6,e11,e12,e13,Q1,seval]
    rw[e];simpa[cU]using h
   ·have e:Yt k n=[114,101,116,117,114,110,32]:=by simp [Yt,k5]
    refine Qk (U1 G h (by rw[e]at htot;simp [ZP]at htot⊢;omega)) ?_
    rintro o B ⟨rfl,h⟩
    simp only[e0,e2,e6,e11,e12,e13,Q1,seval]
    rw[e];simpa[cU]using h
   ·have e:Yt k n=[105,102,32,40]:=by simp [Yt,k3]
    refine Qk (U1 G h (by rw[e]at htot;simp [ZP]at htot⊢;omega)) ?_
    rintro o B ⟨rfl,h⟩
    simp only[e0,e2,e6,e11,e12,e13,Q1,seval]
    rw[e];simpa[cU]using h
   ·have e:Yt k n=[119,104,105,108,101,32,40]:=by simp [Yt,k4]
    refine Qk (U1 G h (by rw[e]at htot;simp [ZP]at htot⊢;omega)) ?_
    rintro o B ⟨rfl,h⟩
    simp only[e0,e2,e6,e11,e12,e13,Q1,seval]
    rw[e];simpa[cU]using h
   ·have e:Yt k n=[]:=by simp [Yt,k1,k2,k3,k4,k5]
    rw[e,cN];exact h
  clear h e0 e2 e6 e11 e12 e13
  rintro env ds B ⟨e0,e2,e6,e8,e11,e12,e13,rfl,h⟩
  have hqB:=h.ovr.keep hq1
  simp only[e0,e8,hqB,Q1,seval]
  rw[←hexp]
  refine Qk (hTv A1 B b _ h (by simp [ZP];omega)) ?_
  rintro o B ⟨rfl,h⟩
  have hqB:=h.ovr.keep hq1
  by_cases hk:k=3∨k=4
  ·simp only[fC hk,cC,cE,cL,ZP]at htot
   rw[fC hk]at next
   simp only[e0,e8,hqB,Q1,seval]
   refine⟨fun k3=> ?_,fun k3=>⟨fun k4=> ?_,fun k4=>absurd hk (by simp [k3,k4])⟩⟩
   all_goals
    refine Qk (U1 G h (by simp [ZP];omega)) ?_
    rintro o B ⟨rfl,h⟩
    have hqB:=h.ovr.keep hq1
    simp only[e0,e2,e8,hqB,e7,Q1,seval]
    refine Qk (hTb A1 B b _ h (by omega) (by simp [ZP];omega)) ?_
    rintro o B ⟨rfl,h⟩
    have hqB:=h.ovr.keep hq1
    simp only[e0,e2,e6,e8,hqB,e7,Q1,seval]
    refine⟨fun hel=> ?_,fun hel=> ?_⟩
    ·have hemp:el.isEmpty=false:=by cases el with|nil=>simp at hel|cons=>rfl
     simp only[hemp,cB,if_false,cC,cE,cL,ZP]at htot
     simp only[hemp,cB,if_false]at next
     refine⟨by simp [ZP];omega,Qk (U1 G h (by simp [ZP];omega)) ?_⟩
     rintro o B ⟨rfl,h⟩
     have hqB:=h.ovr.keep hq1
     simp only[e0,e2,e6,e8,hqB,e7,Q1,seval]
     refine Qk (hTe A1 B b _ h (by omega) (by simp [ZP];omega)) ?_
     rintro o B ⟨rfl,h⟩
     simp only[e0,e2,e6,e8,Q1,seval]
     refine⟨by simp [ZP];omega,Qk (U1 G h (by simp [ZP];omega)) ?_⟩
     rintro o B ⟨rfl,h⟩
     simp only[e0,e2,e6,e11,e12,e13,e5,Q1,seval]
     exact⟨post.length,by simp,pre++[.mk k n (.mk vk vn vi vs) bo' el],post,by simp [hpp],rfl,rfl,next _ (by simpa[cU]using un h)⟩
    ·have hemp:el.isEmpty=true:=by cases el with|nil=>rfl|cons a r=>exact absurd (by simp) hel
     simp only[hemp,if_true,cC,cE,cL,ZP]at htot
     simp only[hemp,if_true]at next
     refine⟨by simp [ZP];omega,Qk (U1 G h (by simp [ZP];omega)) ?_⟩
     rintro o B ⟨rfl,h⟩
     simp only[e0,e2,e6,e11,e12,e13,e5,Q1,seval]
     exact⟨post.length,by simp,pre++[.mk k n (.mk vk vn vi vs) bo' el],post,by simp [hpp],rfl,rfl,next _ (by simpa[cU]using un h)⟩
  ·simp only[fD hk,cE,cL]at htot
   rw[fD hk]at next
   have k3:¬k=3:=fun e=>hk (.inl e)
   have k4:¬k=4:=fun e=>hk (.inr e)
   simp only[e0,e8,hqB,Q1,seval]
   refine⟨fun h=>absurd h k3,fun _=>⟨fun h=>absurd h k4,fun _=>Qk (U1 G h (by simp [ZP];omega)) ?_⟩⟩
   rintro o B ⟨rfl,h⟩
   simp only[e0,e2,e6,e11,e12,e13,e5,Q1,seval]
   exact⟨post.length,by simp,pre++[.mk k n (.mk vk vn vi vs) bo' el],post,by simp [hpp],rfl,rfl,next _ (by simpa[cU]using un h)⟩
theorem CS (hG:Gl G)(x:Exp){A:Q3}(hw:ZC x=true)(hs:Zm x=true)(hlt:VS x)(hn:(Z8 x).nodes<2^61)(hl:(Qh x).length≤140737488355328):Qu Tryz.prog G 187 [Zw x] A (.tuple [.str (Qh x),i64 0]) A:=by
 have hch:Yc x=0:=by simp [Yc,hw,hs]
 obtain⟨k,n,i,xs⟩:=x
 have hexp:Zw (.mk k n i xs)=.agg [i64 k,.str n,i64 i,.slice 4 xs.length (Exp.cellsL xs) none]:=rfl
 refine Q4 l187 (fE rfl) ?_
 rw[hexp]
 simp only[Aq,Q1,seval]
 intro d hd
 rw[←hexp]
 refine Q2 (GO G _ hlt hn) ?_
 rw[hch]
 simp only[Q1,seval]
 intro b hb ho
 obtain⟨hbd,hb0⟩:=Q9 hb
 have h:=HV hb ho
 simp only[Q5 hbd.symm,Q1,seval]
 rw[←hexp]
 refine Qk (Ew G hG _ hw hlt _ _ b [] h (by simpa using hl)) ?_
 rintro o B ⟨rfl,h⟩
 simp only[Q1,seval]
 refine Q2 (h.string G (by simp;omega)) ?_
 simp only[Q1,seval]
 exact Qb (by simp) (h.ovr.unset hd)
theorem CV (hG:Gl G)(x:Exp){A:Q3}(hw:ZC x=true)(hs:Zm x=true)(hlt:VS x)(hn:(Z8 x).nodes<2^61)(hl:(Qh x).length≤140737488355328):Qu Tryz.prog G 114 [Zw x] A (.str (Qh x)) A:=by
 have h187:=CS G hG x (A:=A) hw hs hlt hn hl
 obtain⟨k,n,i,xs⟩:=x
 have hexp:Zw (.mk k n i xs)=.agg [i64 k,.str n,i64 i,.slice 4 xs.length (Exp.cellsL xs) none]:=rfl
 refine Q4 l114 (fE rfl) ?_
 rw[hexp]
 simp only[qL,Q1,seval]
 intro d hd
 rw[←hexp]
 refine Q2 (CS G hG _ hw hs hlt hn hl) ?_
 simp only[Q1,seval]
 exact Qb rfl ((Z7.refl A).set hd (by simp))
theorem k44 (hG:Gl G)(l:List Func){A:Q3}(hw:Us l=true)(hs:JZ l=true)(hlt:∀f∈l,HX f)(hlen:l.length<2^60)(hn:(J8 ⟨0,0,false⟩ l).nodes<2^61)(hl:(VD l).length≤140737488355328):Qu Tryz.prog G 44 [Qy 3 Func.cells l] A (.tuple [.str (VD l),i64 0]) A:=by
 have hch:UY l=0:=by simp [UY,hw,hs]
 refine Q4 l44 (fE rfl) ?_
 simp only[C44,Q1,seval]
 refine Q2 (k59 G l hlt hlen hn) ?_
 rw[hch]
 simp only[Q1,seval]
 intro b hb ho
 have h:=HV hb ho
 simp only[Qy,Q1,seval]
 refine Qv (fun m env ds B=>∃pre post,l=pre++post∧m=post.length∧env 5=.ptr b 0∧env 13=.slice 3 l.length (l.flatMap Func.cells) none∧env 14=i64 l.length∧env 15=i64 pre.length∧ds=[]∧Bd A b (VD pre) B) l.length
  ⟨[],l,rfl,rfl,rfl,rfl,rfl,rfl,rfl,h⟩ ?_
 clear h
 rintro m env ds B ⟨pre,post,hpp,rfl,e5,e13,e14,e15,rfl,h⟩
 have hl2:(pre.length:Int)+post.length=l.length:=by rw[hpp];simp
 cases post with
 |nil=>
  have hlti:¬((pre.length:Int)<l.length):=by simp at hl2;omega
  have hpl:l=pre:=by rw[hpp];simp
  rw[←hpl]at h
  simp only[e5,e13,e14,e15,Q1,seval]
  refine⟨fun h=>absurd h hlti,fun _=>Q2 (h.string G (by omega)) ?_⟩
  simp only[Q1,seval]
  exact Qb rfl h.ovr
 |cons x post=>
  have hlti:((pre.length:Int)<l.length):=by simp at hl2;omega
  have e6:IntKind.i64.wrap ((pre.length:Int)+1)=((pre++[x]).length:Nat):=by rw[Qg (by omega) (by omega)];simp
  have hmem:x∈l:=by rw[hpp];simp
  have htot:(VD pre).length+(O4 x).length≤140737488355328:=by
   rw[hpp]at hl
   simp only[VD,List.flatMap_append,dD,cC]at hl⊢
   omega
  have next:∀B',Bd A b (VD pre++O4 x) B'→Bd A b (VD (pre++[x])) B':=fun B' h=>by
   simp only[VD,List.flatMap_append,dD,List.flatMap_nil,cN]at h⊢;exact h
  have hwx:=cH.1 hw x hmem
  obtain⟨lt1,lt2,lt3,lt4,lt5⟩:=hlt x hmem
  simp only[e5,e13,e14,e15,Q1,seval]
  refine⟨fun _=>⟨hlti,?_⟩,fun h=>absurd hlti h⟩
  have hd:(l.flatMap Func.cells).drop (pre.length*3)=Func.cells x++post.flatMap Func.cells:=by rw[hpp,Zg (sz:=3) (fun _=>rfl)];simp
  rw[hd,dM (show(Func.cells x).length=3 from rfl)]
  refine⟨by simp [Func.cells],fun q hq=> ?_⟩
  obtain⟨n,ps,bo'⟩:=x
  simp only at hwx lt1 lt2 lt3 lt4 lt5
  have htF:O4 ⟨n,ps,bo'⟩=VL++[32]++n++[40]++Lib.join ps [44,32]++[41,32,123,10]++Zu 1 bo'++[125,10]:=rfl
  rw[htF]at htot next
  simp only[cC,cE,cL]at htot
  simp only[Func.cells,Qy,Q1,seval]
  have hAq:=h.ovr.gone hq
  have h:=h.base hq (cs:=[.str n,.slice 1 ps.length (ps.flatMap Zl) none,.slice 8 bo'.length (bo'.flatMap Stmt.cells) none])
  have un:∀{bs B},Bd (A.upd q (some (.cells [.str n,.slice 1 ps.length (ps.flatMap Zl) none,.slice 8 bo'.length (bo'.flatMap Stmt.cells) none]))) b bs B→Bd A b bs B:=fun h=>h.un hAq
  have hq1:(A.upd q (some (.cells [.str n,.slice 1 ps.length (ps.flatMap Zl) none,.slice 8 bo'.length (bo'.flatMap Stmt.cells) none]))) q=some (.cells [.str n,.slice 1 ps.length (ps.flatMap Zl) none,.slice 8 bo'.length (bo'.flatMap Stmt.cells) none]):=Q0 ..
  generalize B.upd q (some (.cells [.str n,.slice 1 ps.length (ps.flatMap Zl) none,.slice 8 bo'.length (bo'.flatMap Stmt.cells) none]))=B at*
  generalize A.upd q (some (.cells [.str n,.slice 1 ps.length (ps.flatMap Zl) none,.slice 8 bo'.length (bo'.flatMap Stmt.cells) none]))=A1 at*
  have hqB:=h.ovr.keep hq1
  simp only[cD]at hwx
  have hTb:=yH G hG bo' 1 hwx.2 lt5 lt4
  unfold EG at hTb
  have hfl:VL.length=4:=rfl
  have hps:ps.length≤4:=by
   simp only[JZ,cD,cH,dZ]at hs
   exact hs.1.1 _ hmem
  rw[Stmt.cellsL_eq]at hTb
  refine QV (QB (by simp;omega)) ?_
  simp only[Q1,seval]
  refine QV (QB (by simp;omega)) ?_
  simp only[hqB,Q1,seval]
  refine Q2 (f42 G ps [44,32] rfl rfl _ (by omega) (by omega)) ?_
  simp only[hqB,QW,Q1,seval]
  refine QV (QB (by simp;omega)) ?_
  simp only[Q1,seval]
  refine QV (QB (by simp;omega)) ?_
  simp only[e5,Q1,seval]
  refine Qk (U1 G h (by simp;omega)) ?_
  rintro o B ⟨rfl,h⟩
  have hqB:=h.ovr.keep hq1
  simp only[e5,hqB,QW,Q1,seval]
  refine Qk (hTb A1 B b _ h (by omega) (by simp;omega)) ?_
  rintro o B ⟨rfl,h⟩
  simp only[e5,Q1,seval]
  refine Qk (U1 G h (by simp;omega)) ?_
  rintro o B ⟨rfl,h⟩
  simp only[e5,e13,e14,e15,e6,Q1,seval]
  exact⟨post.length,by simp,pre++[⟨n,ps,bo'⟩],post,by simp [hpp],rfl,rfl,next _ (by simpa[cU,VL]using un h)⟩
end
end Go.Proofs.YtcbjbgaefighcaaGreatDoor
