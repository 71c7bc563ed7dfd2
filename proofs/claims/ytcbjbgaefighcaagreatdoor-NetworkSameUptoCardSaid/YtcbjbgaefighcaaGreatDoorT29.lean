/- Part 29 of the proof. -/
import Derived.Test.YtcbjbgaefighcaaGreatDoorT0
import Derived.Test.YtcbjbgaefighcaaGreatDoorT26
import Derived.Test.YtcbjbgaefighcaaGreatDoorT28
set_option linter.all false
namespace Go.Proofs.YtcbjbgaefighcaaGreatDoor
open Go Go.Ax Go.Proofs
section
variable (G:Nat→Option (List AV))
theorem k237 (k:Int)(A:Q2):Qz Tryz.prog G 237 [i64 k] A (i64 (JB k)) A:=by
 refine Q4 l237 (fE rfl) ?_
 simp only[EE,Q1,seval]
 refine⟨fun h=>Qb (by simp [JB,h]) (.refl _),fun h18=>⟨fun h=>Qb (by simp [JB,h]) (.refl _),fun h3=>⟨fun h=>Qb (by simp [JB,h]) (.refl _),fun h4=>
  ⟨fun h=>Qb (by simp [JB,h]) (.refl _),fun h1=>⟨fun h=>Qb (by simp [JB,h]) (.refl _),fun h2=>⟨fun h=>Qb (by simp [JB,h]) (.refl _),fun h19=> ?_⟩⟩⟩⟩⟩⟩
 refine Q3 (Pn G k A) ?_
 simp only[Q1,seval]
 exact Qb (by simp [JB,h18,h3,h4,h1,h2,h19]) (.refl _)
abbrev WrT (A:Q2)(b:Nat)(bs:Bs)(o:Out)(B':Q2):Prop:=o=.ret Zt∧Bd A b bs B'
def TW (x:Exp):Prop:=∀(A B:Q2) (b:Nat) (bs:Bs),Bd A b bs B→bs.length+(Zc x).length≤140737488355328→Qq Tryz.prog G 184 [.ptr b 0,Zl x] B (WrT A b (bs++Zc x))
theorem prt_len {l:Nat}{k:Int}{t:Bs}:t.length≤(VE l k t).length:=by
 unfold VE;split <;> simp;omega
theorem Ow {y:Exp}(hT:TW G y){A B:Q2}{b c:Nat}{bs:Bs}(h:Bd A b bs B)(hc:A c=some (.cells [.ptr b 0])){l:Nat}(hl:bs.length+(VE l y.kind (Zc y)).length≤140737488355328):
 Qq Tryz.prog G 236 [Zl y,i64 l,.ptr c 0] B (WrT A b (bs++VE l y.kind (Zc y))):=by
 have hy:Zl y=.agg y.cells:=rfl
 obtain⟨k,n,i,xs⟩:=y
 have hcells:Exp.cells (.mk k n i xs)=[i64 k,.str n,i64 i,.slice 4 xs.length (Exp.cellsL xs) none]:=rfl
 have hexp:Zl (.mk k n i xs)=.agg [i64 k,.str n,i64 i,.slice 4 xs.length (Exp.cellsL xs) none]:=rfl
 refine Q4 l236 (fE rfl) ?_
 rw[hexp]
 simp only[EF,Q1,seval]
 intro d hd
 have hAd:=h.ovr.gone hd
 have h:=h.base hd (cs:=[i64 k,.str n,i64 i,.slice 4 xs.length (Exp.cellsL xs) none])
 have hcd:=Q6 hc hAd
 have hc:=(Q7 A d (some (.cells [i64 k,.str n,i64 i,.slice 4 xs.length (Exp.cellsL xs) none])) hcd).trans hc
 have hd1:(A.upd d (some (.cells [i64 k,.str n,i64 i,.slice 4 xs.length (Exp.cellsL xs) none]))) d=some (.cells [i64 k,.str n,i64 i,.slice 4 xs.length (Exp.cellsL xs) none]):=Q0 ..
 generalize B.upd d (some (.cells [i64 k,.str n,i64 i,.slice 4 xs.length (Exp.cellsL xs) none]))=B at*
 have un:∀{bs B},Bd (A.upd d (some (.cells [i64 k,.str n,i64 i,.slice 4 xs.length (Exp.cellsL xs) none]))) b bs B→Bd A b bs B:=fun h=>h.un hAd
 generalize A.upd d (some (.cells [i64 k,.str n,i64 i,.slice 4 xs.length (Exp.cellsL xs) none]))=A1 at*
 refine Q3 (k237 G k _) ?_
 simp only[Q1,seval]
 have hp:Exp.kind (.mk k n i xs)=k:=rfl
 rw[hp]at hl⊢
 by_cases hlt:JB k<l
 ·have hlt':((JB k:Nat):Int)<(l:Int):=by omega
  have e:VE l k (Zc (.mk k n i xs))=[40]++Zc (.mk k n i xs)++[41]:=by simp [VE,hlt]
  rw[e]at hl⊢
  simp only[cC,cE,cL]at hl
  refine⟨fun _=> ?_,fun h=>absurd hlt' h⟩
  have hcB:=h.ovr.keep hc
  simp only[hcB,Q1,seval]
  refine Qh (TK G (c:=40) h (by omega)) ?_
  rintro o B1 ⟨rfl,h⟩
  have hcB:=h.ovr.keep hc
  have hdB:=h.ovr.keep hd1
  simp only[hcB,hdB,Q1,seval]
  rw[←hexp]
  refine Qh (hT A1 B1 b _ h (by simp;omega)) ?_
  rintro o B2 ⟨rfl,h⟩
  simp only[UB,Q1,seval]
  refine W3.mono (d238 G (c:=41) h (by simp;omega)) ?_
  rintro pn B3 ⟨rfl,h⟩
  simp only[QO,Q1,seval]
  exact ZM (Wk.refl _) (Ve.refl _) ⟨rfl,by simpa[cU]using un h⟩
 ·have hlt':¬((JB k:Nat):Int)<(l:Int):=by omega
  have e:VE l k (Zc (.mk k n i xs))=Zc (.mk k n i xs):=by simp [VE,hlt]
  rw[e]at hl⊢
  refine⟨fun h=>absurd h hlt',fun _=> ?_⟩
  have hcB:=h.ovr.keep hc
  have hdB:=h.ovr.keep hd1
  simp only[hcB,hdB,Q1,seval]
  rw[←hexp]
  refine Qh (hT A1 B b _ h hl) ?_
  rintro o B2 ⟨rfl,h⟩
  simp only[UB,XI,QO,Q1,seval]
  exact ZM (Wk.refl _) (Ve.refl _) ⟨rfl,un h⟩
theorem Ml {sep x:Bs}{a b:List Bs}(h:a≠[]):Lib.join (a++b) sep=Lib.join a sep++Lib.joinTail sep b:=by
 obtain⟨y,r,rfl⟩:=List.exists_cons_of_ne_nil h
 rw[cF,Lib.join_cons,Lib.join_cons]
 simp [Lib.joinTail]
theorem La {sep x:Bs}{a:List Bs}:Lib.join (a++[x]) sep=Lib.join a sep++((if a=[]then[]else sep)++x):=by
 by_cases h:a=[]
 ·subst h;simp [Lib.join_one,Lib.join_nil]
 ·rw[Ml (x:=x) h,fD h];simp [Lib.joinTail]
theorem F3 {sep:Bs}{a b:List Bs}:(Lib.join a sep).length≤(Lib.join (a++b) sep).length:=by
 by_cases h:a=[]
 ·subst h;simp [Lib.join_nil]
 ·rw[Ml (x:=[]) h,cC];omega
theorem Sk:∀x:Exp,x.cells[0]? =some (i64 x.kind)
 | .mk .. =>rfl
theorem Sj:∀x:Exp,x.cells[2]? =some (i64 x.int)
 | .mk .. =>rfl
theorem Lc {k:Int}{n:Bs}{i:Int}{m:Nat}(h:Vi k n i m=true):ZR i=true∧∀c,ZN k=some (some c)→m=c:=by
 simp only[Vi,cD]at h
 refine⟨h.1.2,fun c hc=> ?_⟩
 have:=h.1.1.1
 rw[hc]at this
 simpa using this
theorem NP (hG:Gl G):∀(x:Exp),Jx x=true→UA x→TW G x:=by
 intro x
 induction hn:SizeOf.sizeOf x using Nat.strongRecOn generalizing x with
 |_ sz ih=>
 intro hwf hlt A B b bs h hl
 obtain⟨k,n,i,xs⟩:=x
 simp only[Jx,cD]at hwf
 obtain⟨hhd,hxs⟩:=hwf
 simp only[UA]at hlt
 obtain⟨lt1,lt2,lt3⟩:=hlt
 obtain⟨hin,har⟩:=Lc hhd
 have hT:∀y∈xs,TW G y:=fun y hy=>ih _ (by
  have:=cY hy
  rw[←hn];simp only[Exp.mk.sizeOf_spec];omega) y rfl (by rw[Wz]at hxs;exact cH.1 hxs y hy) (XF lt3 y hy)
 have hexp:Zl (.mk k n i xs)=.agg [i64 k,.str n,i64 i,.slice 4 xs.length (Exp.cellsL xs) none]:=rfl
 refine Q4 l184 (fE rfl) ?_
 rw[hexp]
 unfold D9
 refine Qa (fun env ds B=>∃c d,env 2=.ptr c 0∧env 3=.ptr d 0∧ds=[]∧A c=none∧(A.upd c (some (.cells [.ptr b 0]))) d=none∧Bd ((A.upd c (some (.cells [.ptr b 0]))).upd d (some (.cells [i64 k,.str n,i64 i,.slice 4 xs.length (Exp.cellsL xs) none]))) b bs B) ?_ ?_
 ·simp only[Q1,seval]
  intro c hc d hd
  have h1:=h.base hc (cs:=[.ptr b 0])
  exact⟨c,d,rfl,rfl,h.ovr.gone hc,h1.ovr.gone hd,h1.base hd⟩
 clear h
 rintro env ds B ⟨c,d,e2,e3,rfl,hc,hd,h⟩
 have un:∀{bs B},Bd ((A.upd c (some (.cells [.ptr b 0]))).upd d (some (.cells [i64 k,.str n,i64 i,.slice 4 xs.length (Exp.cellsL xs) none]))) b bs B→Bd A b bs B:=fun h=>(h.un hd).un hc
 have hd1:((A.upd c (some (.cells [.ptr b 0]))).upd d (some (.cells [i64 k,.str n,i64 i,.slice 4 xs.length (Exp.cellsL xs) none]))) d=some (.cells [i64 k,.str n,i64 i,.slice 4 xs.length (Exp.cellsL xs) none]):=Q0 ..
 have hc1:((A.upd c (some (.cells [.ptr b 0]))).upd d (some (.cells [i64 k,.str n,i64 i,.slice 4 xs.length (Exp.cellsL xs) none]))) c=some (.cells [.ptr b 0]):=by
  rw[Q5 (Q8 hd).1.symm,Q0]
 generalize((A.upd c (some (.cells [.ptr b 0]))).upd d (some (.cells [i64 k,.str n,i64 i,.slice 4 xs.length (Exp.cellsL xs) none])))=A1 at*
 have hcB:=h.ovr.keep hc1
 have hdB:=h.ovr.keep hd1
 have htx:Zc (.mk k n i xs)=V9 k n i xs (xs.map Zc):=by rw[Zc,OA]
 rw[htx]at hl⊢
 simp only[e2,e3,hcB,hdB,Q1,seval]
 refine⟨fun h1=> ?_,fun h1=>⟨fun h2=> ?_,fun h2=>⟨fun h3=> ?_,fun h3=>⟨fun h4=> ?_,fun h4=>⟨fun h18=> ?_,fun h18=>⟨fun h19=> ?_,fun h19=> ?_⟩⟩⟩⟩⟩⟩
 ·have e:V9 k n i xs (xs.map Zc)=Lib.itoa i:=by simp [V9,h1]
  rw[e]at hl⊢
  simp only[ZR,dZ]at hin
  refine Q3 (FX hG i _ (by omega) (by omega)) ?_
  simp only[hcB,QK,Q1,seval]
  refine Qh (Vd G h hl) ?_
  rintro o B' ⟨rfl,h⟩
  simp only[QK,QO,Q1,seval]
  exact ZM (Wk.refl _) (Ve.refl _) ⟨rfl,un h⟩
 ·have e:V9 k n i xs (xs.map Zc)=n:=by simp [V9,h2]
  rw[e]at hl⊢
  refine Qh (Vd G h hl) ?_
  rintro o B' ⟨rfl,h⟩
  simp only[QO,Q1,seval]
  exact ZM (Wk.refl _) (Ve.refl _) ⟨rfl,un h⟩
 ·have hx1:=har 1 (by simp [ZN,h3])
  obtain⟨x0,rfl⟩:=fZ.1 hx1
  have e:V9 k n i [x0] ([x0].map Zc)=[45]++VE (if x0.kind=1∧0≤x0.int then 8 else 6) x0.kind (Zc x0):=by simp [V9,h3]
  rw[e]at hl⊢
  simp only[cC,cE,cL]at hl
  have hT0:=hT x0 (by simp)
  refine Qh (TK G (c:=45) h (by omega)) ?_
  rintro o B ⟨rfl,h⟩
  have hcB:=h.ovr.keep hc1
  have hdB:=h.ovr.keep hd1
  simp only[Exp.cellsL]at hdB
  simp only[e2,e3,hcB,hdB,Exp.cells_len,Sk,Sj,Q1,seval]
  refine fun q hq=> ?_
  have hA1q:=h.ovr.gone hq
  have h:=h.base hq (cs:=x0.cells)
  have hc1:=(Q7 A1 q (some (.cells x0.cells)) (Q6 hc1 hA1q)).trans hc1
  have hd1:=(Q7 A1 q (some (.cells x0.cells)) (Q6 hd1 hA1q)).trans hd1
  have un:∀{bs B},Bd (A1.upd q (some (.cells x0.cells))) b bs B→Bd A b bs B:=fun h=>un (h.un hA1q)
  have hq1:(A1.upd q (some (.cells x0.cells))) q=some (.cells x0.cells):=Q0 ..
  generalize B.upd q (some (.cells x0.cells))=B at*
  generalize A1.upd q (some (.cells x0.cells))=A1 at*
  have hcB:=h.ovr.keep hc1
  have hdB:=h.ovr.keep hd1
  have hqB:=h.ovr.keep hq1
  simp only[Exp.cellsL]at hdB
  have fin:∀{l:Nat},(if x0.kind=1∧0≤x0.int then 8 else 6)=l→Qq Tryz.prog G 236 [Zl x0,i64 l,.ptr c 0] B (WrT A1 b (bs++[45]++VE (if x0.kind=1∧0≤x0.int then 8 else 6) x0.kind (Zc x0))):=fun{l} e=>by
   rw[e]at hl⊢
   exact Ow G hT0 h hc1 (by simp only[cC,cE,cL];omega)
  have done:∀{C:Cx},True:=fun{_}=>trivial
  simp only[e2,e3,hcB,hdB,hqB,Exp.cells_len,Sk,Sj,Q1,seval]
  refine⟨fun hk=>⟨fun hi=> ?_,fun hi=> ?_⟩,fun hk=> ?_⟩
  ·refine Qh (fin (l:=8) (by simp [hk,hi])) ?_
   rintro o B' ⟨rfl,h⟩
   simp only[QO,Q1,seval]
   exact ZM (Wk.refl _) (Ve.refl _) ⟨rfl,by simpa using un h⟩
  ·refine Qh (fin (l:=6) (by simp [hi])) ?_
   rintro o B' ⟨rfl,h⟩
   simp only[QO,Q1,seval]
   exact ZM (Wk.refl _) (Ve.refl _) ⟨rfl,by simpa using un h⟩
  ·refine Qh (fin (l:=6) (by simp [hk])) ?_
   rintro o B' ⟨rfl,h⟩
   simp only[QO,Q1,seval]
   exact ZM (Wk.refl _) (Ve.refl _) ⟨rfl,by simpa using un h⟩
 ·have hx1:=har 1 (by simp [ZN,h4])
  obtain⟨x0,rfl⟩:=fZ.1 hx1
  have e:V9 k n i [x0] ([x0].map Zc)=[33]++VE 6 x0.kind (Zc x0):=by simp [V9,h4]
  rw[e]at hl⊢
  simp only[cC,cE,cL]at hl
  have hT0:=hT x0 (by simp)
  refine Qh (TK G (c:=33) h (by omega)) ?_
  rintro o B ⟨rfl,h⟩
  have hcB:=h.ovr.keep hc1
  have hdB:=h.ovr.keep hd1
  simp only[Exp.cellsL]at hdB
  simp only[e2,e3,hcB,hdB,Exp.cells_len,Q1,seval]
  refine Qh (Ow G hT0 h hc1 (l:=6) (by simp only[cC,cE,cL];omega)) ?_
  rintro o B' ⟨rfl,h⟩
  simp only[QO,Q1,seval]
  exact ZM (Wk.refl _) (Ve.refl _) ⟨rfl,by simpa using un h⟩
 ·have hx1:=har 3 (by simp [ZN,h18])
  obtain⟨x0,x1,x2,rfl⟩:∃a b c,xs=[a,b,c]:=by
   match xs,hx1 with
   |[a,b,c],_=>exact⟨_,_,_,rfl⟩
  have e:V9 k n i [x0,x1,x2] ([x0,x1,x2].map Zc)=VE 1 x0.kind (Zc x0)++[32,63,32]++Zc x1++[32,58,32]++Zc x2:=by simp [V9,h18]
  rw[e]at hl⊢
  simp only[cC,cE,cL]at hl
  have hd8:(Exp.cells x0++(Exp.cells x1++Exp.cells x2)).drop 8=Exp.cells x2:=by
   rw[←cU];exact List.drop_left' (by simp [Exp.cells_len])
  have hd4:(Exp.cells x0++(Exp.cells x1++Exp.cells x2)).drop 4=Exp.cells x1++Exp.cells x2:=List.drop_left' (Exp.cells_len x0)
  have hz2:4≤x2.cells.length:=by rw[Exp.cells_len];exact fG _
  simp only[Exp.cellsL]at hdB
  simp only[e2,e3,hcB,hdB,Exp.cellsL,Exp.cells_len,Q1,seval]
  refine Qh (Ow G (hT x0 (by simp)) h hc1 (l:=1) (by omega)) ?_
  rintro o B ⟨rfl,h⟩
  have hcB:=h.ovr.keep hc1
  have hdB:=h.ovr.keep hd1
  simp only[Exp.cellsL]at hdB
  simp only[e2,e3,hcB,hdB,Q1,seval]
  refine Qh (Vd G h (by simp;omega)) ?_
  rintro o B ⟨rfl,h⟩
  have hcB:=h.ovr.keep hc1
  have hdB:=h.ovr.keep hd1
  simp only[Exp.cellsL]at hdB
  simp only[e2,e3,hcB,hdB,hd4,Exp.cells_len,QK,Q1,seval]
  refine Qh (hT x1 (by simp) A1 B b _ h (by simp;omega)) ?_
  rintro o B ⟨rfl,h⟩
  have hcB:=h.ovr.keep hc1
  have hdB:=h.ovr.keep hd1
  simp only[Exp.cellsL]at hdB
  simp only[e2,e3,hcB,hdB,QK,Q1,seval]
  refine Qh (Vd G h (by simp;omega)) ?_
  rintro o B ⟨rfl,h⟩
  have hcB:=h.ovr.keep hc1
  have hdB:=h.ovr.keep hd1
  simp only[Exp.cellsL]at hdB
  simp only[e2,e3,hcB,hdB,hd8,Exp.cells_len,Exp.cells_take,fC hz2,QK,Q1,seval]
  refine Qh (hT x2 (by simp) A1 B b _ h (by simp;omega)) ?_
  rintro o B ⟨rfl,h⟩
  simp only[QK,QO,Q1,seval]
  exact ZM (Wk.refl _) (Ve.refl _) ⟨rfl,by simpa[cU]using un h⟩
 ·have e:V9 k n i xs (xs.map Zc)=n++[40]++Lib.join (xs.map Zc) [44,32]++[41]:=by simp [V9,h19]
  rw[e]at hl⊢
  simp only[cC,cE,cL]at hl
  refine⟨by omega,Qh (Vd G h (by simp;omega)) ?_⟩
  rintro o B ⟨rfl,h⟩
  have hcB:=h.ovr.keep hc1
  have hdB:=h.ovr.keep hd1
  simp only[e2,e3,hcB,hdB,Q1,seval]
  refine Qt (fun m env ds B=>∃pre post,xs=pre++post∧m=post.length∧env 2=.ptr c 0∧env 124=.slice 4 xs.length (Exp.cellsL xs) none∧env 125=i64 xs.length∧env 126=i64 pre.length∧ds=[]∧Bd A1 b (bs++(n++[40]++Lib.join (pre.map Zc) [44,32])) B) xs.length
   ⟨[],xs,rfl,rfl,e2,rfl,rfl,rfl,rfl,by simpa[Lib.join_nil]using h⟩ ?_
  clear h hcB hdB e2 e3
  rintro m env ds B ⟨pre,post,hpp,rfl,e2,e124,e125,e126,rfl,h⟩
  have hl2:(pre.length:Int)+post.length=xs.length:=by rw[hpp];simp
  have hcB:=h.ovr.keep hc1
  cases post with
  |nil=>
   have hlt:¬((pre.length:Int)<xs.length):=by simp at hl2;omega
   have hpl:xs=pre:=by rw[hpp];simp
   rw[←hpl]at h
   simp only[e2,e124,e125,e126,hcB,Q1,seval]
   refine⟨fun h=>absurd h hlt,fun _=>Qh (TK G (c:=41) h (by simp;omega)) ?_⟩
   rintro o B ⟨rfl,h⟩
   simp only[QO,Q1,seval]
   exact ZM (Wk.refl _) (Ve.refl _) ⟨rfl,by simpa[cU]using un h⟩
  |cons x post=>
   have hlt:((pre.length:Int)<xs.length):=by simp at hl2;omega
   have e5:IntKind.i64.wrap ((pre.length:Int)+1)=((pre++[x]).length:Nat):=by rw[Qf (by omega) (by omega)];simp
   simp only[e2,e124,e125,e126,hcB,Q1,seval]
   refine⟨fun _=>⟨hlt,?_⟩,fun h=>absurd hlt h⟩
   have hd:(Exp.cellsL xs).drop (pre.length*4)=Exp.cells x++post.flatMap Exp.cells:=by rw[Exp.cellsL_eq,hpp,Z6 Exp.cells_len];simp
   rw[hd,dM (Exp.cells_len x)]
   refine⟨by simp [Exp.cells_len],fun q hq=> ?_⟩
   rw[O4 (Exp.cells_len x) rfl (Exp.cells_one x),QV]
   have hA1q:=h.ovr.gone hq
   have h:=h.base hq (cs:=x.cells)
   have hc1:=(Q7 A1 q (some (.cells x.cells)) (Q6 hc1 hA1q)).trans hc1
   have un1:∀{bs B},Bd (A1.upd q (some (.cells x.cells))) b bs B→Bd A1 b bs B:=fun h=>h.un hA1q
   have hq1:(A1.upd q (some (.cells x.cells))) q=some (.cells x.cells):=Q0 ..
   generalize B.upd q (some (.cells x.cells))=B at*
   generalize A1.upd q (some (.cells x.cells))=A2 at*
   have hcB:=h.ovr.keep hc1
   have hqB:=h.ovr.keep hq1
   have hjn:(Lib.join ((pre++[x]).map Zc) [44,32]).length≤(Lib.join (xs.map Zc) [44,32]).length:=by
    rw[hpp,show pre++x::post=(pre++[x])++post by simp,lH (l₁:=pre++[x])];exact F3
   rw[lH,List.map_singleton,La]at hjn
   have next:∀B',Bd A2 b (bs++(n++[40]++Lib.join (pre.map Zc) [44,32])++(if pre=[]then[]else[44,32])++Zc x) B'→Bd A1 b (bs++(n++[40]++Lib.join ((pre++[x]).map Zc) [44,32])) B':=fun B' h=>by
    rw[lH,List.map_singleton,La]
    have:=un1 h
    simpa[cU]using this
   have hTx:=hT x (by rw[hpp];simp)
   simp only[e2,e124,e125,e126,hcB,hqB,Exp.cells_take,Q1,seval]
   simp only[cC]at hjn
   refine⟨fun hpos=> ?_,fun hpos=> ?_⟩
   ·have hpne:pre≠[]:=fun e=>by subst e;simp at hpos
    have hif:(if pre.map Zc=[]then([]:Bs)else[44,32])=[44,32]:=fD (by simpa using hpne)
    rw[hif]at hjn
    rw[fD hpne]at next
    refine Qh (Vd G h (by simp at hjn⊢;omega)) ?_
    rintro o B ⟨rfl,h⟩
    have hcB:=h.ovr.keep hc1
    have hqB:=h.ovr.keep hq1
    simp only[e2,e124,e125,e126,hcB,hqB,Exp.cells_take,Exp.cells_len,Q1,seval]
    refine Qh (hTx A2 B b _ h (by simp at hjn⊢;omega)) ?_
    rintro o B ⟨rfl,h⟩
    simp only[e2,e124,e125,e126,e5,Q1,seval]
    exact⟨post.length,by simp,pre++[x],post,by simp [hpp],rfl,rfl,next _ h⟩
   ·have hpne:pre=[]:=by
     cases pre with
     |nil=>rfl
     |cons a r=>exact absurd (by simp) hpos
    have hif:(if pre.map Zc=[]then([]:Bs)else[44,32])=[]:=fC (by simpa using hpne)
    rw[hif]at hjn
    rw[fC hpne]at next
    refine Qh (hTx A2 B b _ h (by simp at hjn⊢;omega)) ?_
    rintro o B ⟨rfl,h⟩
    simp only[e2,e124,e125,e126,e5,Q1,seval]
    exact⟨post.length,by simp,pre++[x],post,by simp [hpp],rfl,rfl,next _ (by simpa using h)⟩
 ·have h517:5≤k∧k≤17:=Decidable.byContradiction fun e=>by
   have:ZN k=none:=by simp only[ZN,h1,h2,h3,h4,h18,h19,e,or_self,if_false]
   simp [Vi,this]at hhd
  have hx1:=har 2 (by simp only[ZN,h1,h2,h3,h4,h517,or_self,if_false,and_self,if_true])
  obtain⟨x0,x1,rfl⟩:∃a b,xs=[a,b]:=by
   match xs,hx1 with
   |[a,b],_=>exact⟨_,_,rfl⟩
  have hpr:JB k=(UF k).2:=by simp [JB,h1,h2,h3,h4,h18,h19]
  have e:V9 k n i [x0,x1] ([x0,x1].map Zc)=VE (if JB k=3 then 4 else JB k) x0.kind (Zc x0)++[32]++(UF k).1++[32]++VE (JB k+1) x1.kind (Zc x1):=by simp [V9,h1,h2,h3,h4,h18,h19]
  rw[e,hpr]at hl⊢
  simp only[cC,cE,cL]at hl
  have hd4:(Exp.cells x0++Exp.cells x1).drop 4=Exp.cells x1:=List.drop_left' (Exp.cells_len x0)
  simp only[Exp.cellsL,cN]at hd1 hdB
  have ho5:(UF k).2≤5:=by
   have:k=5∨k=6∨k=7∨k=8∨k=9∨k=10∨k=11∨k=12∨k=13∨k=14∨k=15∨k=16∨k=17:=by omega
   rcases this with rfl|rfl|rfl|rfl|rfl|rfl|rfl|rfl|rfl|rfl|rfl|rfl|rfl <;> decide
  refine Q3 (Pn G k _) ?_
  generalize hop:UF k=op at*
  obtain⟨sg,rk⟩:=op
  simp only at hl ho5⊢
  have e6:IntKind.i64.wrap ((rk:Int)+1)=((rk+1:Nat):Int):=by rw[Qf (by omega) (by omega)];rfl
  simp only[e2,e3,hcB,hdB,Exp.cells_len,Exp.cells_take,e6,Q1,seval]
  refine⟨fun h3=> ?_,fun h3=> ?_⟩
  ·have hrk:rk=3:=by omega
   have hif:(if rk=3 then 4 else rk)=rk+1:=by rw[fC hrk,hrk]
   refine Qh (Ow G (hT x0 (by simp)) h hc1 (l:=rk+1) (by rw[hif]at hl;omega)) ?_
   rintro o B ⟨rfl,h⟩
   have hcB:=h.ovr.keep hc1
   have hdB:=h.ovr.keep hd1
   rw[hif]at hl⊢
   simp only[e2,e3,hcB,hdB,Exp.cells_len,Exp.cells_take,e6,Q1,seval]
   refine⟨by omega,by omega,Qh (Vd G h (by simp;omega)) ?_⟩
   rintro o B ⟨rfl,h⟩
   have hcB:=h.ovr.keep hc1
   have hdB:=h.ovr.keep hd1
   simp only[e2,e3,hcB,hdB,hd4,Exp.cells_len,Exp.cells_take,e6,Q1,seval]
   refine Qh (Ow G (hT x1 (by simp)) h hc1 (l:=rk+1) (by simp;omega)) ?_
   rintro o B ⟨rfl,h⟩
   simp only[QO,Q1,seval]
   exact ZM (Wk.refl _) (Ve.refl _) ⟨rfl,by simpa[cU]using un h⟩
  ·have hif:(if rk=3 then 4 else rk)=rk:=fD (by omega)
   refine Qh (Ow G (hT x0 (by simp)) h hc1 (l:=rk) (by rw[hif]at hl;omega)) ?_
   rintro o B ⟨rfl,h⟩
   have hcB:=h.ovr.keep hc1
   have hdB:=h.ovr.keep hd1
   rw[hif]at hl⊢
   simp only[e2,e3,hcB,hdB,Exp.cells_len,Exp.cells_take,e6,Q1,seval]
   refine⟨by omega,by omega,Qh (Vd G h (by simp;omega)) ?_⟩
   rintro o B ⟨rfl,h⟩
   have hcB:=h.ovr.keep hc1
   have hdB:=h.ovr.keep hd1
   simp only[e2,e3,hcB,hdB,hd4,Exp.cells_len,Exp.cells_take,e6,Q1,seval]
   refine Qh (Ow G (hT x1 (by simp)) h hc1 (l:=rk+1) (by simp;omega)) ?_
   rintro o B ⟨rfl,h⟩
   simp only[QO,Q1,seval]
   exact ZM (Wk.refl _) (Ve.refl _) ⟨rfl,by simpa[cU]using un h⟩
end
open Go.RowKit
theorem IN:∀d:Nat,Lib.repeatL [9] d=UX d
 |0=>rfl
 |d+1=>by
  have:=IN d
  simp only[Lib.repeatL,UX,List.replicate_succ]at this⊢
  simpa using this
theorem L4 {κ:Kn}{A:Q2}{w:World}{G:Nat→Option (List AV)}(hr:Rel G κ A w){g:Nat}:∀(l:List Bs) (o:Nat),Zm κ g (l.flatMap Zj) o→∀j x,l[j]? =some x→w.cell? ⟨g,o+j,none⟩=some (.string ⟨x.toArray⟩)
 |[],_,_,_,_,h=>by simp at h
 |c::l,o,h,j,x,hx=>by
  simp only[dD,Zj,cF,cI,Zm]at h
  obtain⟨⟨y,h1,h2⟩,h3⟩:=h
  cases j with
  |zero=>
   simp only[lL,cA]at hx;subst hx
   rw[VR h2]at h1
   exact hr.imm _ _ _ h1
  |succ j=>
   have:=L4 hr l (o+1) h3 j x (by simpa using hx)
   rw[show o+(j+1)=o+1+j from by omega];exact this
theorem Z3 {a b:Bs}(h:a.length+b.length≤9223372036854775807):Qg .add .num (.str a) (.str b)=some (.str (a++b)):=by
 simp only[Qg,ZC];rw[fC h]
theorem QQ.unset {A B:Q2}{d:Nat}{cs:List AV}(h:QQ (A.upd d (some (.cells cs))) B)(hd:A d=none):QQ A B:=QQ.trans ((QQ.refl A).set hd (by simp)) h
section
variable (G:Nat→Option (List AV))
theorem f183 (d:Nat)(A:Q2)(hd:d≤140737488355328):Qz Tryz.prog G 183 [.str [9],i64 d] A (.str (UX d)) A:=
 Uo (by kernel_rfl) fun κ w hr vs hvs=>by
  obtain⟨x,y,rfl,hx,hy⟩:=Um hvs
  rw[VR hx,Js hy]
  refine(Tryz.strings_Repeat ⟨#[9]⟩ d w (by omega) (by simp [ByteArray.size];omega)).mono ?_
  rintro e w' ⟨rfl,hb⟩
  refine⟨hb,_,rfl,?_⟩
  simp only[Qd]
  rw[←IN]
theorem f42 (l:List Bs)(sep:Bs){n:Nat}{cs:List AV}{t:Option Nat}(hn:n=l.length)(hcs:cs=l.flatMap Zj)(A:Q2)(hl:l.length≤140737488355328)(hj:(Lib.join l sep).length≤140737488355328):Qz Tryz.prog G 42 [.slice 1 n cs t,.str sep] A (.str (Lib.join l sep)) A:=
 Uo (by kernel_rfl) fun κ w hr vs hvs=>by
  subst hn hcs
  obtain⟨x,y,rfl,hx,hy⟩:=Um hvs
  rw[VR hy]
  simp only[Qd]at hx
  have hmap:(l.map fun x=>(⟨x.toArray⟩:ByteArray)).map (·.data.toList)=l:=by simp [List.map_map,Function.comp_def]
  have nilc:∀(a:Option Addr) (c:Nat),l=[]→Calls Tryz.prog 42 #[.slice a l.length c,.string ⟨sep.toArray⟩] w fun e w'=>Below w.heap.size w w'∧∃u,e=.returned u∧Qd κ (.str (Lib.join l sep)) u:=fun a c h0=>by
   subst h0
   refine(Tryz.strings_Join_none a c ⟨sep.toArray⟩ w).mono ?_
   rintro e w' ⟨rfl,rfl⟩
   exact⟨.refl _ _,_,rfl,by simp [Qd,Lib.join_nil]⟩
  rcases hx with⟨_,h1,_,a,rfl⟩|⟨b,o,cap,rfl,hcap,_,hc,_⟩
  ·have:=nilc a 0 (fJ.1 h1)
   rw[h1]at this;exact this
  ·by_cases h0:l=[]
   ·exact nilc _ _ h0
   have hcell:=L4 hr l o hc
   have hblk:b<w.heap.size:=by
    obtain⟨x,r,rfl⟩:=List.exists_cons_of_ne_nil h0
    have:=hcell 0 x rfl
    rcases fH b w.heap.size with h|h
    ·exact h
    ·simp [World.cell?,lD h]at this
   have:=Tryz.strings_Join b o cap (l.map fun x=>(⟨x.toArray⟩:ByteArray)) ⟨sep.toArray⟩ w (fun j x hx=>by
    rw[List.getElem?_map,cG]at hx
    obtain⟨y,hy,rfl⟩:=hx
    exact hcell j y hy) hblk (by simpa using hl) (by simpa using hcap) (by rw[hmap];simpa using hj)
   rw[hmap,lG]at this
   refine this.mono ?_
   rintro e w' ⟨rfl,hb⟩
   exact⟨hb,_,rfl,by simp [Qd]⟩
theorem R0 {d:Nat}{k:Int}{n:Bs}{v:Exp}{b e:List Stmt}:(UX d).length+(Zc v).length+2≤(I7 d (.mk k n v b e)).length:=by
 simp only[I7,cC]
 split
 ·simp;omega
 ·simp;omega
theorem Zw (d:Nat):(UX d).length=d:=by simp [UX]
def NY (d:Nat)(l:List Stmt):Prop:=∀(A B:Q2) (b:Nat) (bs:Bs),Bd A b bs B→d≤140737488355328→bs.length+(Yv d l).length≤140737488355328→Qq Tryz.prog G 108 [.ptr b 0,.slice 8 l.length (Stmt.cellsL l) none,i64 d] B (WrT A b (bs++Yv d l))
theorem Oz {d:Nat}{a b:List Stmt}:Yv d (a++b)=Yv d a++Yv d b:=by simp only[IA,List.flatMap_append]
theorem CR (hG:Gl G):∀(l:List Stmt) (d:Nat),Xw l=true→Xx l→l.length<2^60→NY G d l:=by
 intro l
 induction hn:SizeOf.sizeOf l using Nat.strongRecOn generalizing l with
 |_ sz ih=>
 intro d hwf hlt hll A B b bs h hd hl
 refine Q4 l108 (fE rfl) ?_
 simp only[DO,Q1,seval]
 refine Q3 (f183 G d _ hd) ?_
 simp only[Q1,seval]
 refine Qt (fun m env ds B=>∃pre post,l=pre++post∧m=post.length∧env 0=.ptr b 0∧env 2=i64 d∧env 6=.str (UX d)∧env 11=.slice 8 l.length (Stmt.cellsL l) none∧env 12=i64 l.length∧env 13=i64 pre.length∧ds=[]∧Bd A b (bs++Yv d pre) B) l.length
  ⟨[],l,rfl,rfl,rfl,rfl,rfl,rfl,rfl,rfl,rfl,by simpa[Yv]using h⟩ ?_
 clear h
 rintro m env ds B ⟨pre,post,hpp,rfl,e0,e2,e6,e11,e12,e13,rfl,h⟩
 have hl2:(pre.length:Int)+post.length=l.length:=by rw[hpp];simp
 cases post with
 |nil=>
  have hlt:¬((pre.length:Int)<l.length):=by simp at hl2;omega
  have hpl:l=pre:=by rw[hpp];simp
  rw[←hpl]at h
  simp only[e0,e2,e6,e11,e12,e13,QO,Q1,seval]
  exact⟨fun h=>absurd h hlt,fun _=>ZM (Wk.refl _) (Ve.refl _) ⟨rfl,h⟩⟩
 |cons x post=>
  have hlti:((pre.length:Int)<l.length):=by simp at hl2;omega
  have e5:IntKind.i64.wrap ((pre.length:Int)+1)=((pre++[x]).length:Nat):=by rw[Qf (by omega) (by omega)];simp
  have hmem:x∈l:=by rw[hpp];simp
  have hx:=XD l▸hwf
  have hwx:=cH.1 hx x hmem
  have hltx:=VO hlt x hmem
  have hszx:=cY hmem
  have htot:bs.length+(Yv d pre).length+(I7 d x).length≤140737488355328:=by
   rw[hpp,show pre++x::post=pre++[x]++post by simp,Oz,Oz]at hl
   simp only[Yv,cC,cN]at hl
   omega
  have next:∀B',Bd A b (bs++Yv d pre++I7 d x) B'→Bd A b (bs++Yv d (pre++[x])) B':=fun B' h=>by
   rw[Oz];simpa[Yv,cU]using h
  simp only[e0,e2,e6,e11,e12,e13,Q1,seval]
  refine⟨fun _=>⟨hlti,?_⟩,fun h=>absurd hlti h⟩
  have hdr:(Stmt.cellsL l).drop (pre.length*8)=Stmt.cells x++post.flatMap Stmt.cells:=by rw[Stmt.cellsL_eq,hpp,Z6 Stmt.cells_len];simp
  rw[hdr,dM (Stmt.cells_len x)]
  refine⟨by simp [Stmt.cells_len],fun q hq=> ?_⟩
  obtain⟨k,n,v,bo',el⟩:=x
  obtain⟨vk,vn,vi,vs⟩:=v
  simp only[Stmt.cells,Exp.cells,e0,e2,e6,e11,e12,e13,Q1,seval]
  have hAq:=h.ovr.gone hq
  have h:=h.base hq (cs:=[i64 k,.str n,i64 vk,.str vn,i64 vi,.slice 4 vs.length (Exp.cellsL vs) none,.slice 8 bo'.length (Stmt.cellsL bo') none,.slice 8 el.length (Stmt.cellsL el) none])
  have un:∀{bs B},Bd (A.upd q (some (.cells [i64 k,.str n,i64 vk,.str vn,i64 vi,.slice 4 vs.length (Exp.cellsL vs) none,.slice 8 bo'.length (Stmt.cellsL bo') none,.slice 8 el.length (Stmt.cellsL el) none]))) b bs B→Bd A b bs B:=fun h=>h.un hAq
  have hq1:(A.upd q (some (.cells [i64 k,.str n,i64 vk,.str vn,i64 vi,.slice 4 vs.length (Exp.cellsL vs) none,.slice 8 bo'.length (Stmt.cellsL bo') none,.slice 8 el.length (Stmt.cellsL el) none]))) q=some (.cells [i64 k,.str n,i64 vk,.str vn,i64 vi,.slice 4 vs.length (Exp.cellsL vs) none,.slice 8 bo'.length (Stmt.cellsL bo') none,.slice 8 el.length (Stmt.cellsL el) none]):=Q0 ..
  generalize B.upd q (some (.cells [i64 k,.str n,i64 vk,.str vn,i64 vi,.slice 4 vs.length (Exp.cellsL vs) none,.slice 8 bo'.length (Stmt.cellsL bo') none,.slice 8 el.length (Stmt.cellsL el) none]))=B at*
  generalize A.upd q (some (.cells [i64 k,.str n,i64 vk,.str vn,i64 vi,.slice 4 vs.length (Exp.cellsL vs) none,.slice 8 bo'.length (Stmt.cellsL bo') none,.slice 8 el.length (Stmt.cellsL el) none]))=A1 at*
  have hvE:=R0 (d:=d) (k:=k) (n:=n) (v:=.mk vk vn vi vs) (b:=bo') (e:=el)
  rw[Zw]at hvE
  simp only[Uz,cD]at hwx
  simp only[Wp]at hltx
  obtain⟨lt1,lt2,lt3,lt4,lt5,lt6⟩:=hltx
  have hTv:=NP G hG (.mk vk vn vi vs) hwx.1.1.2 lt2
  have hTb:=ih _ (by rw[←hn];simp only[Stmt.mk.sizeOf_spec]at hszx;omega) bo' rfl (d+1) hwx.1.2 lt5 lt3
  have hTe:=ih _ (by rw[←hn];simp only[Stmt.mk.sizeOf_spec]at hszx;omega) el rfl (d+1) hwx.2 lt6 lt4
  have hexp:Zl (.mk vk vn vi vs)=.agg [i64 vk,.str vn,i64 vi,.slice 4 vs.length (Exp.cellsL vs) none]:=rfl
  have e7:IntKind.i64.wrap ((d:Int)+1)=((d+1:Nat):Int):=by rw[Qf (by omega) (by omega)];rfl
  have htS:I7 d (.mk k n (.mk vk vn vi vs) bo' el)=UX d++(U6 k n++(Zc (.mk vk vn vi vs)++(if k=3∨k=4 then[41,32,123,10]++(Yv (d+1) bo'++((if el.isEmpty then[]else UX d++([125,32,101,108,115,101,32,123,10]++Yv (d+1) el))++(UX d++[125,10])))else[59,10]))):=by rw[I7]
  rw[htS]at htot next
  simp only[cC,Zw]at htot
  refine Qh (Vd G h (by simp [Zw];omega)) ?_
  rintro o B ⟨rfl,h⟩
  simp only[O5,Iw]
  refine Qa (fun env ds B=>env 0=.ptr b 0∧env 2=i64 d∧env 6=.str (UX d)∧env 8=.ptr q 0∧env 11=.slice 8 l.length (Stmt.cellsL l) none∧env 12=i64 l.length∧env 13=i64 pre.length∧ds=[]∧Bd A1 b (bs++Yv d pre++UX d++U6 k n) B) ?_ ?_
  ·have hqB:=h.ovr.keep hq1
   have hh:U6 k n=if k=1 then[118,97,114,32]++n++[32,61,32]else if k=2 then n++[32,61,32]else if k=5 then[114,101,116,117,114,110,32]else if k=3 then[105,102,32,40]else if k=4 then[119,104,105,108,101,32,40]else[]:=rfl
   simp only[e0,e2,e6,e11,e12,e13,hqB,Q1,seval]
   refine⟨fun k1=> ?_,fun k1=>⟨fun k2=> ?_,fun k2=>⟨fun k5=> ?_,fun k5=>⟨fun k3=> ?_,fun k3=>⟨fun k4=> ?_,fun k4=> ?_⟩⟩⟩⟩⟩
   ·have e:U6 k n=[118,97,114,32]++n++[32,61,32]:=by simp [U6,k1]
    refine⟨by omega,by omega,Qh (Vd G h (by rw[e]at htot;simp [Zw]at htot⊢;omega)) ?_⟩
    rintro o B ⟨rfl,h⟩
    simp only[e0,e2,e6,e11,e12,e13,Q1,seval]
    rw[e];simpa[cU]using h
   ·have e:U6 k n=n++[32,61,32]:=by simp [U6,k2]
    refine⟨by omega,Qh (Vd G h (by rw[e]at htot;simp [Zw]at htot⊢;omega)) ?_⟩
    rintro o B ⟨rfl,h⟩
    simp only[e0,e2,e6,e11,e12,e13,Q1,seval]
    rw[e];simpa[cU]using h
   ·have e:U6 k n=[114,101,116,117,114,110,32]:=by simp [U6,k5]
    refine Qh (Vd G h (by rw[e]at htot;simp [Zw]at htot⊢;omega)) ?_
    rintro o B ⟨rfl,h⟩
    simp only[e0,e2,e6,e11,e12,e13,Q1,seval]
    rw[e];simpa[cU]using h
   ·have e:U6 k n=[105,102,32,40]:=by simp [U6,k3]
    refine Qh (Vd G h (by rw[e]at htot;simp [Zw]at htot⊢;omega)) ?_
    rintro o B ⟨rfl,h⟩
    simp only[e0,e2,e6,e11,e12,e13,Q1,seval]
    rw[e];simpa[cU]using h
   ·have e:U6 k n=[119,104,105,108,101,32,40]:=by simp [U6,k4]
    refine Qh (Vd G h (by rw[e]at htot;simp [Zw]at htot⊢;omega)) ?_
    rintro o B ⟨rfl,h⟩
    simp only[e0,e2,e6,e11,e12,e13,Q1,seval]
    rw[e];simpa[cU]using h
   ·have e:U6 k n=[]:=by simp [U6,k1,k2,k3,k4,k5]
    rw[e,cN];exact h
  clear h e0 e2 e6 e11 e12 e13
  rintro env ds B ⟨e0,e2,e6,e8,e11,e12,e13,rfl,h⟩
  have hqB:=h.ovr.keep hq1
  simp only[e0,e8,hqB,Q1,seval]
  rw[←hexp]
  refine Qh (hTv A1 B b _ h (by simp [Zw];omega)) ?_
  rintro o B ⟨rfl,h⟩
  have hqB:=h.ovr.keep hq1
  by_cases hk:k=3∨k=4
  ·simp only[fC hk,cC,cE,cL,Zw]at htot
   rw[fC hk]at next
   simp only[e0,e8,hqB,Q1,seval]
   refine⟨fun k3=> ?_,fun k3=>⟨fun k4=> ?_,fun k4=>absurd hk (by simp [k3,k4])⟩⟩
   all_goals
    refine Qh (Vd G h (by simp [Zw];omega)) ?_
    rintro o B ⟨rfl,h⟩
    have hqB:=h.ovr.keep hq1
    simp only[e0,e2,e8,hqB,e7,Q1,seval]
    refine Qh (hTb A1 B b _ h (by omega) (by simp [Zw];omega)) ?_
    rintro o B ⟨rfl,h⟩
    have hqB:=h.ovr.keep hq1
    simp only[e0,e2,e6,e8,hqB,e7,Q1,seval]
    refine⟨fun hel=> ?_,fun hel=> ?_⟩
    ·have hemp:el.isEmpty=false:=by cases el with|nil=>simp at hel|cons=>rfl
     simp only[hemp,cB,if_false,cC,cE,cL,Zw]at htot
     simp only[hemp,cB,if_false]at next
     refine⟨by simp [Zw];omega,Qh (Vd G h (by simp [Zw];omega)) ?_⟩
     rintro o B ⟨rfl,h⟩
     have hqB:=h.ovr.keep hq1
     simp only[e0,e2,e6,e8,hqB,e7,Q1,seval]
     refine Qh (hTe A1 B b _ h (by omega) (by simp [Zw];omega)) ?_
     rintro o B ⟨rfl,h⟩
     simp only[e0,e2,e6,e8,Q1,seval]
     refine⟨by simp [Zw];omega,Qh (Vd G h (by simp [Zw];omega)) ?_⟩
     rintro o B ⟨rfl,h⟩
     simp only[e0,e2,e6,e11,e12,e13,e5,Q1,seval]
     exact⟨post.length,by simp,pre++[.mk k n (.mk vk vn vi vs) bo' el],post,by simp [hpp],rfl,rfl,next _ (by simpa[cU]using un h)⟩
    ·have hemp:el.isEmpty=true:=by cases el with|nil=>rfl|cons a r=>exact absurd (by simp) hel
     simp only[hemp,if_true,cC,cE,cL,Zw]at htot
     simp only[hemp,if_true]at next
     refine⟨by simp [Zw];omega,Qh (Vd G h (by simp [Zw];omega)) ?_⟩
     rintro o B ⟨rfl,h⟩
     simp only[e0,e2,e6,e11,e12,e13,e5,Q1,seval]
     exact⟨post.length,by simp,pre++[.mk k n (.mk vk vn vi vs) bo' el],post,by simp [hpp],rfl,rfl,next _ (by simpa[cU]using un h)⟩
  ·simp only[fD hk,cE,cL]at htot
   rw[fD hk]at next
   have k3:¬k=3:=fun e=>hk (.inl e)
   have k4:¬k=4:=fun e=>hk (.inr e)
   simp only[e0,e8,hqB,Q1,seval]
   refine⟨fun h=>absurd h k3,fun _=>⟨fun h=>absurd h k4,fun _=>Qh (Vd G h (by simp [Zw];omega)) ?_⟩⟩
   rintro o B ⟨rfl,h⟩
   simp only[e0,e2,e6,e11,e12,e13,e5,Q1,seval]
   exact⟨post.length,by simp,pre++[.mk k n (.mk vk vn vi vs) bo' el],post,by simp [hpp],rfl,rfl,next _ (by simpa[cU]using un h)⟩
theorem FL (hG:Gl G)(x:Exp){A:Q2}(hw:Jx x=true)(hs:ZL x=true)(hlt:UA x)(hn:(Zv x).nodes<2^61)(hl:(Zc x).length≤140737488355328):Qz Tryz.prog G 187 [Zl x] A (.tuple [.str (Zc x),i64 0]) A:=by
 have hch:VF x=0:=by simp [VF,hw,hs]
 obtain⟨k,n,i,xs⟩:=x
 have hexp:Zl (.mk k n i xs)=.agg [i64 k,.str n,i64 i,.slice 4 xs.length (Exp.cellsL xs) none]:=rfl
 refine Q4 l187 (fE rfl) ?_
 rw[hexp]
 simp only[D7,Q1,seval]
 intro d hd
 rw[←hexp]
 refine Q3 (Pp G _ hlt hn) ?_
 rw[hch]
 simp only[Q1,seval]
 intro b hb ho
 obtain⟨hbd,hb0⟩:=Q8 hb
 have h:=OP hb ho
 simp only[Q5 hbd.symm,Q1,seval]
 rw[←hexp]
 refine Qh (NP G hG _ hw hlt _ _ b [] h (by simpa using hl)) ?_
 rintro o B ⟨rfl,h⟩
 simp only[Q1,seval]
 refine Q3 (h.string G (by simp;omega)) ?_
 simp only[Q1,seval]
 exact Qb (by simp) (h.ovr.unset hd)
theorem FO (hG:Gl G)(x:Exp){A:Q2}(hw:Jx x=true)(hs:ZL x=true)(hlt:UA x)(hn:(Zv x).nodes<2^61)(hl:(Zc x).length≤140737488355328):Qz Tryz.prog G 114 [Zl x] A (.str (Zc x)) A:=by
 have h187:=FL G hG x (A:=A) hw hs hlt hn hl
 obtain⟨k,n,i,xs⟩:=x
 have hexp:Zl (.mk k n i xs)=.agg [i64 k,.str n,i64 i,.slice 4 xs.length (Exp.cellsL xs) none]:=rfl
 refine Q4 l114 (fE rfl) ?_
 rw[hexp]
 simp only[DJ,Q1,seval]
 intro d hd
 rw[←hexp]
 refine Q3 (FL G hG _ hw hs hlt hn hl) ?_
 simp only[Q1,seval]
 exact Qb rfl ((QQ.refl A).set hd (by simp))
theorem k44 (hG:Gl G)(l:List Func){A:Q2}(hw:UV l=true)(hs:Jr l=true)(hlt:∀f∈l,I9 f)(hlen:l.length<2^60)(hn:(ZJ ⟨0,0,false⟩ l).nodes<2^61)(hl:(UW l).length≤140737488355328):Qz Tryz.prog G 44 [Qr 3 Func.cells l] A (.tuple [.str (UW l),i64 0]) A:=by
 have hch:U9 l=0:=by simp [U9,hw,hs]
 refine Q4 l44 (fE rfl) ?_
 simp only[C44,Q1,seval]
 refine Q3 (k59 G l hlt hlen hn) ?_
 rw[hch]
 simp only[Q1,seval]
 intro b hb ho
 have h:=OP hb ho
 simp only[Qr,Q1,seval]
 refine Qt (fun m env ds B=>∃pre post,l=pre++post∧m=post.length∧env 5=.ptr b 0∧env 13=.slice 3 l.length (l.flatMap Func.cells) none∧env 14=i64 l.length∧env 15=i64 pre.length∧ds=[]∧Bd A b (UW pre) B) l.length
  ⟨[],l,rfl,rfl,rfl,rfl,rfl,rfl,rfl,h⟩ ?_
 clear h
 rintro m env ds B ⟨pre,post,hpp,rfl,e5,e13,e14,e15,rfl,h⟩
 have hl2:(pre.length:Int)+post.length=l.length:=by rw[hpp];simp
 cases post with
 |nil=>
  have hlti:¬((pre.length:Int)<l.length):=by simp at hl2;omega
  have hpl:l=pre:=by rw[hpp];simp
  rw[←hpl]at h
  simp only[e5,e13,e14,e15,Q1,seval]
  refine⟨fun h=>absurd h hlti,fun _=>Q3 (h.string G (by omega)) ?_⟩
  simp only[Q1,seval]
  exact Qb rfl h.ovr
 |cons x post=>
  have hlti:((pre.length:Int)<l.length):=by simp at hl2;omega
  have e6:IntKind.i64.wrap ((pre.length:Int)+1)=((pre++[x]).length:Nat):=by rw[Qf (by omega) (by omega)];simp
  have hmem:x∈l:=by rw[hpp];simp
  have htot:(UW pre).length+(T6 x).length≤140737488355328:=by
   rw[hpp]at hl
   simp only[UW,List.flatMap_append,dD,cC]at hl⊢
   omega
  have next:∀B',Bd A b (UW pre++T6 x) B'→Bd A b (UW (pre++[x])) B':=fun B' h=>by
   simp only[UW,List.flatMap_append,dD,List.flatMap_nil,cN]at h⊢;exact h
  have hwx:=cH.1 hw x hmem
  obtain⟨lt1,lt2,lt3,lt4,lt5⟩:=hlt x hmem
  simp only[e5,e13,e14,e15,Q1,seval]
  refine⟨fun _=>⟨hlti,?_⟩,fun h=>absurd hlti h⟩
  have hd:(l.flatMap Func.cells).drop (pre.length*3)=Func.cells x++post.flatMap Func.cells:=by rw[hpp,Z6 (sz:=3) (fun _=>rfl)];simp
  rw[hd,dM (show(Func.cells x).length=3 from rfl)]
  refine⟨by simp [Func.cells],fun q hq=> ?_⟩
  obtain⟨n,ps,bo'⟩:=x
  simp only at hwx lt1 lt2 lt3 lt4 lt5
  have htF:T6 ⟨n,ps,bo'⟩=WO++[32]++n++[40]++Lib.join ps [44,32]++[41,32,123,10]++Yv 1 bo'++[125,10]:=rfl
  rw[htF]at htot next
  simp only[cC,cE,cL]at htot
  simp only[Func.cells,Qr,Q1,seval]
  have hAq:=h.ovr.gone hq
  have h:=h.base hq (cs:=[.str n,.slice 1 ps.length (ps.flatMap Zj) none,.slice 8 bo'.length (bo'.flatMap Stmt.cells) none])
  have un:∀{bs B},Bd (A.upd q (some (.cells [.str n,.slice 1 ps.length (ps.flatMap Zj) none,.slice 8 bo'.length (bo'.flatMap Stmt.cells) none]))) b bs B→Bd A b bs B:=fun h=>h.un hAq
  have hq1:(A.upd q (some (.cells [.str n,.slice 1 ps.length (ps.flatMap Zj) none,.slice 8 bo'.length (bo'.flatMap Stmt.cells) none]))) q=some (.cells [.str n,.slice 1 ps.length (ps.flatMap Zj) none,.slice 8 bo'.length (bo'.flatMap Stmt.cells) none]):=Q0 ..
  generalize B.upd q (some (.cells [.str n,.slice 1 ps.length (ps.flatMap Zj) none,.slice 8 bo'.length (bo'.flatMap Stmt.cells) none]))=B at*
  generalize A.upd q (some (.cells [.str n,.slice 1 ps.length (ps.flatMap Zj) none,.slice 8 bo'.length (bo'.flatMap Stmt.cells) none]))=A1 at*
  have hqB:=h.ovr.keep hq1
  simp only[cD]at hwx
  have hTb:=CR G hG bo' 1 hwx.2 lt5 lt4
  unfold NY at hTb
  have hfl:WO.length=4:=rfl
  have hps:ps.length≤4:=by
   simp only[Jr,cD,cH,dZ]at hs
   exact hs.1.1 _ hmem
  rw[Stmt.cellsL_eq]at hTb
  refine Zp (Z3 (by simp;omega)) ?_
  simp only[Q1,seval]
  refine Zp (Z3 (by simp;omega)) ?_
  simp only[hqB,Q1,seval]
  refine Q3 (f42 G ps [44,32] rfl rfl _ (by omega) (by omega)) ?_
  simp only[hqB,QK,Q1,seval]
  refine Zp (Z3 (by simp;omega)) ?_
  simp only[Q1,seval]
  refine Zp (Z3 (by simp;omega)) ?_
  simp only[e5,Q1,seval]
  refine Qh (Vd G h (by simp;omega)) ?_
  rintro o B ⟨rfl,h⟩
  have hqB:=h.ovr.keep hq1
  simp only[e5,hqB,QK,Q1,seval]
  refine Qh (hTb A1 B b _ h (by omega) (by simp;omega)) ?_
  rintro o B ⟨rfl,h⟩
  simp only[e5,Q1,seval]
  refine Qh (Vd G h (by simp;omega)) ?_
  rintro o B ⟨rfl,h⟩
  simp only[e5,e13,e14,e15,e6,Q1,seval]
  exact⟨post.length,by simp,pre++[⟨n,ps,bo'⟩],post,by simp [hpp],rfl,rfl,next _ (by simpa[cU,WO]using un h)⟩
end
end Go.Proofs.YtcbjbgaefighcaaGreatDoor
