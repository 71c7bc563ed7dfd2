/- Part 29 of the proof. -/
import Derived.Test.YtcbjbgaefighcaaGreatDoorT0
import Derived.Test.YtcbjbgaefighcaaGreatDoorT26
import Derived.Test.YtcbjbgaefighcaaGreatDoorT28
set_option linter.all false
namespace Go.Proofs.YtcbjbgaefighcaaGreatDoor
open Go Go.Ax Go.Proofs
section
variable (G:Nat→Option (List AV))
theorem k237 (k:Int)(A:Q2):QB Tryz.prog G 237 [i64 k] A (i64 (J4 k)) A:=by
 refine Q4 l237 (fE rfl) ?_
 simp only[Bf,Q1,seval]
 refine⟨fun h=>Qc (by simp [J4,h]) (.refl _),fun h18=>⟨fun h=>Qc (by simp [J4,h]) (.refl _),fun h3=>⟨fun h=>Qc (by simp [J4,h]) (.refl _),fun h4=>
  ⟨fun h=>Qc (by simp [J4,h]) (.refl _),fun h1=>⟨fun h=>Qc (by simp [J4,h]) (.refl _),fun h2=>⟨fun h=>Qc (by simp [J4,h]) (.refl _),fun h19=> ?_⟩⟩⟩⟩⟩⟩
 refine Q3 (Gu G k A) ?_
 simp only[Q1,seval]
 exact Qc (by simp [J4,h18,h3,h4,h1,h2,h19]) (.refl _)
abbrev WrT (A:Q2)(b:Nat)(bs:Bs)(o:Out)(B':Q2):Prop:=o=.ret ZD∧Bd A b bs B'
def SW (x:Exp):Prop:=∀(A B:Q2) (b:Nat) (bs:Bs),Bd A b bs B→bs.length+(Qz x).length≤140737488355328→Qq Tryz.prog G 184 [.ptr b 0,Zr x] B (WrT A b (bs++Qz x))
theorem prt_len {l:Nat}{k:Int}{t:Bs}:t.length≤(Je l k t).length:=by
 unfold Je;split <;> simp;omega
theorem Hz {y:Exp}(hT:SW G y){A B:Q2}{b c:Nat}{bs:Bs}(h:Bd A b bs B)(hc:A c=some (.cells [.ptr b 0])){l:Nat}(hl:bs.length+(Je l y.kind (Qz y)).length≤140737488355328):
 Qq Tryz.prog G 236 [Zr y,i64 l,.ptr c 0] B (WrT A b (bs++Je l y.kind (Qz y))):=by
 have hy:Zr y=.agg y.cells:=rfl
 obtain⟨k,n,i,xs⟩:=y
 have hcells:Exp.cells (.mk k n i xs)=[i64 k,.str n,i64 i,.slice 4 xs.length (Exp.cellsL xs) none]:=rfl
 have hexp:Zr (.mk k n i xs)=.agg [i64 k,.str n,i64 i,.slice 4 xs.length (Exp.cellsL xs) none]:=rfl
 refine Q4 l236 (fE rfl) ?_
 rw[hexp]
 simp only[Bg,Q1,seval]
 intro d hd
 have hAd:=h.ovr.gone hd
 have h:=h.base hd (cs:=[i64 k,.str n,i64 i,.slice 4 xs.length (Exp.cellsL xs) none])
 have hcd:=Q6 hc hAd
 have hc:=(Q8 A d (some (.cells [i64 k,.str n,i64 i,.slice 4 xs.length (Exp.cellsL xs) none])) hcd).trans hc
 have QO:(A.upd d (some (.cells [i64 k,.str n,i64 i,.slice 4 xs.length (Exp.cellsL xs) none]))) d=some (.cells [i64 k,.str n,i64 i,.slice 4 xs.length (Exp.cellsL xs) none]):=Q0 ..
 generalize B.upd d (some (.cells [i64 k,.str n,i64 i,.slice 4 xs.length (Exp.cellsL xs) none]))=B at*
 have un:∀{bs B},Bd (A.upd d (some (.cells [i64 k,.str n,i64 i,.slice 4 xs.length (Exp.cellsL xs) none]))) b bs B→Bd A b bs B:=fun h=>h.un hAd
 generalize A.upd d (some (.cells [i64 k,.str n,i64 i,.slice 4 xs.length (Exp.cellsL xs) none]))=A1 at*
 refine Q3 (k237 G k _) ?_
 simp only[Q1,seval]
 have hp:Exp.kind (.mk k n i xs)=k:=rfl
 rw[hp]at hl⊢
 by_cases hlt:J4 k<l
 ·have hlt':((J4 k:Nat):Int)<(l:Int):=by omega
  have e:Je l k (Qz (.mk k n i xs))=[40]++Qz (.mk k n i xs)++[41]:=by simp [Je,hlt]
  rw[e]at hl⊢
  simp only[cC,cE,cL]at hl
  refine⟨fun _=> ?_,fun h=>absurd hlt' h⟩
  have hcB:=h.ovr.keep hc
  simp only[hcB,Q1,seval]
  refine Qg (SH G (c:=40) h (by omega)) ?_
  rintro o B1 ⟨rfl,h⟩
  have hcB:=h.ovr.keep hc
  have hdB:=h.ovr.keep QO
  simp only[hcB,hdB,Q1,seval]
  rw[←hexp]
  refine Qg (hT A1 B1 b _ h (by simp;omega)) ?_
  rintro o B2 ⟨rfl,h⟩
  simp only[Xm,Q1,seval]
  refine K0.mono (d238 G (c:=41) h (by simp;omega)) ?_
  rintro pn B3 ⟨rfl,h⟩
  simp only[QR,Q1,seval]
  exact J2 (Wk.refl _) (VU.refl _) ⟨rfl,by simpa[cU]using un h⟩
 ·have hlt':¬((J4 k:Nat):Int)<(l:Int):=by omega
  have e:Je l k (Qz (.mk k n i xs))=Qz (.mk k n i xs):=by simp [Je,hlt]
  rw[e]at hl⊢
  refine⟨fun h=>absurd h hlt',fun _=> ?_⟩
  have hcB:=h.ovr.keep hc
  have hdB:=h.ovr.keep QO
  simp only[hcB,hdB,Q1,seval]
  rw[←hexp]
  refine Qg (hT A1 B b _ h hl) ?_
  rintro o B2 ⟨rfl,h⟩
  simp only[Xm,Wy,QR,Q1,seval]
  exact J2 (Wk.refl _) (VU.refl _) ⟨rfl,un h⟩
theorem TP {sep x:Bs}{a b:List Bs}(h:a≠[]):Lib.join (a++b) sep=Lib.join a sep++Lib.joinTail sep b:=by
 obtain⟨y,r,rfl⟩:=List.exists_cons_of_ne_nil h
 rw[cF,Lib.join_cons,Lib.join_cons]
 simp [Lib.joinTail]
theorem My {sep x:Bs}{a:List Bs}:Lib.join (a++[x]) sep=Lib.join a sep++((if a=[]then[]else sep)++x):=by
 by_cases h:a=[]
 ·subst h;simp [Lib.join_one,Lib.join_nil]
 ·rw[TP (x:=x) h,fD h];simp [Lib.joinTail]
theorem Dw {sep:Bs}{a b:List Bs}:(Lib.join a sep).length≤(Lib.join (a++b) sep).length:=by
 by_cases h:a=[]
 ·subst h;simp [Lib.join_nil]
 ·rw[TP (x:=[]) h,cC];omega
theorem Nk:∀x:Exp,x.cells[0]? =some (i64 x.kind)
 | .mk .. =>rfl
theorem Nj:∀x:Exp,x.cells[2]? =some (i64 x.int)
 | .mk .. =>rfl
theorem MA {k:Int}{n:Bs}{i:Int}{m:Nat}(h:Vf k n i m=true):ZQ i=true∧∀c,Zu k=some (some c)→m=c:=by
 simp only[Vf,cD]at h
 refine⟨h.1.2,fun c hc=> ?_⟩
 have:=h.1.1.1
 rw[hc]at this
 simpa using this
theorem Ea (hG:Gl G):∀(x:Exp),JA x=true→Xl x→SW G x:=by
 intro x
 induction hn:SizeOf.sizeOf x using Nat.strongRecOn generalizing x with
 |_ sz ih=>
 intro hwf hlt A B b bs h hl
 obtain⟨k,n,i,xs⟩:=x
 simp only[JA,cD]at hwf
 obtain⟨hhd,hxs⟩:=hwf
 simp only[Xl]at hlt
 obtain⟨lt1,lt2,lt3⟩:=hlt
 obtain⟨hin,har⟩:=MA hhd
 have hT:∀y∈xs,SW G y:=fun y hy=>ih _ (by
  have:=cY hy
  rw[←hn];simp only[Exp.mk.sizeOf_spec];omega) y rfl (by rw[Kz]at hxs;exact cH.1 hxs y hy) (Wv lt3 y hy)
 have hexp:Zr (.mk k n i xs)=.agg [i64 k,.str n,i64 i,.slice 4 xs.length (Exp.cellsL xs) none]:=rfl
 refine Q4 l184 (fE rfl) ?_
 rw[hexp]
 unfold BM
 refine Qb (fun env ds B=>∃c d,env 2=.ptr c 0∧env 3=.ptr d 0∧ds=[]∧A c=none∧(A.upd c (some (.cells [.ptr b 0]))) d=none∧Bd ((A.upd c (some (.cells [.ptr b 0]))).upd d (some (.cells [i64 k,.str n,i64 i,.slice 4 xs.length (Exp.cellsL xs) none]))) b bs B) ?_ ?_
 ·simp only[Q1,seval]
  intro c hc d hd
  have h1:=h.base hc (cs:=[.ptr b 0])
  exact⟨c,d,rfl,rfl,h.ovr.gone hc,h1.ovr.gone hd,h1.base hd⟩
 clear h
 rintro env ds B ⟨c,d,e2,e3,rfl,hc,hd,h⟩
 have un:∀{bs B},Bd ((A.upd c (some (.cells [.ptr b 0]))).upd d (some (.cells [i64 k,.str n,i64 i,.slice 4 xs.length (Exp.cellsL xs) none]))) b bs B→Bd A b bs B:=fun h=>(h.un hd).un hc
 have QO:((A.upd c (some (.cells [.ptr b 0]))).upd d (some (.cells [i64 k,.str n,i64 i,.slice 4 xs.length (Exp.cellsL xs) none]))) d=some (.cells [i64 k,.str n,i64 i,.slice 4 xs.length (Exp.cellsL xs) none]):=Q0 ..
 have hc1:((A.upd c (some (.cells [.ptr b 0]))).upd d (some (.cells [i64 k,.str n,i64 i,.slice 4 xs.length (Exp.cellsL xs) none]))) c=some (.cells [.ptr b 0]):=by
  rw[Q5 (Q9 hd).1.symm,Q0]
 generalize((A.upd c (some (.cells [.ptr b 0]))).upd d (some (.cells [i64 k,.str n,i64 i,.slice 4 xs.length (Exp.cellsL xs) none])))=A1 at*
 have hcB:=h.ovr.keep hc1
 have hdB:=h.ovr.keep QO
 have htx:Qz (.mk k n i xs)=Vu k n i xs (xs.map Qz):=by rw[Qz,IL]
 rw[htx]at hl⊢
 simp only[e2,e3,hcB,hdB,Q1,seval]
 refine⟨fun h1=> ?_,fun h1=>⟨fun h2=> ?_,fun h2=>⟨fun h3=> ?_,fun h3=>⟨fun h4=> ?_,fun h4=>⟨fun h18=> ?_,fun h18=>⟨fun h19=> ?_,fun h19=> ?_⟩⟩⟩⟩⟩⟩
 ·have e:Vu k n i xs (xs.map Qz)=Lib.itoa i:=by simp [Vu,h1]
  rw[e]at hl⊢
  simp only[ZQ,dZ]at hin
  refine Q3 (Cv hG i _ (by omega) (by omega)) ?_
  simp only[hcB,QM,Q1,seval]
  refine Qg (VT G h hl) ?_
  rintro o B' ⟨rfl,h⟩
  simp only[QM,QR,Q1,seval]
  exact J2 (Wk.refl _) (VU.refl _) ⟨rfl,un h⟩
 ·have e:Vu k n i xs (xs.map Qz)=n:=by simp [Vu,h2]
  rw[e]at hl⊢
  refine Qg (VT G h hl) ?_
  rintro o B' ⟨rfl,h⟩
  simp only[QR,Q1,seval]
  exact J2 (Wk.refl _) (VU.refl _) ⟨rfl,un h⟩
 ·have hx1:=har 1 (by simp [Zu,h3])
  obtain⟨x0,rfl⟩:=fZ.1 hx1
  have e:Vu k n i [x0] ([x0].map Qz)=[45]++Je (if x0.kind=1∧0≤x0.int then 8 else 6) x0.kind (Qz x0):=by simp [Vu,h3]
  rw[e]at hl⊢
  simp only[cC,cE,cL]at hl
  have hT0:=hT x0 (by simp)
  refine Qg (SH G (c:=45) h (by omega)) ?_
  rintro o B ⟨rfl,h⟩
  have hcB:=h.ovr.keep hc1
  have hdB:=h.ovr.keep QO
  simp only[Exp.cellsL]at hdB
  simp only[e2,e3,hcB,hdB,Exp.cells_len,Nk,Nj,Q1,seval]
  refine fun q hq=> ?_
  have hA1q:=h.ovr.gone hq
  have h:=h.base hq (cs:=x0.cells)
  have hc1:=(Q8 A1 q (some (.cells x0.cells)) (Q6 hc1 hA1q)).trans hc1
  have QO:=(Q8 A1 q (some (.cells x0.cells)) (Q6 QO hA1q)).trans QO
  have un:∀{bs B},Bd (A1.upd q (some (.cells x0.cells))) b bs B→Bd A b bs B:=fun h=>un (h.un hA1q)
  have hq1:(A1.upd q (some (.cells x0.cells))) q=some (.cells x0.cells):=Q0 ..
  generalize B.upd q (some (.cells x0.cells))=B at*
  generalize A1.upd q (some (.cells x0.cells))=A1 at*
  have hcB:=h.ovr.keep hc1
  have hdB:=h.ovr.keep QO
  have hqB:=h.ovr.keep hq1
  simp only[Exp.cellsL]at hdB
  have fin:∀{l:Nat},(if x0.kind=1∧0≤x0.int then 8 else 6)=l→Qq Tryz.prog G 236 [Zr x0,i64 l,.ptr c 0] B (WrT A1 b (bs++[45]++Je (if x0.kind=1∧0≤x0.int then 8 else 6) x0.kind (Qz x0))):=fun{l} e=>by
   rw[e]at hl⊢
   exact Hz G hT0 h hc1 (by simp only[cC,cE,cL];omega)
  have done:∀{C:Cx},True:=fun{_}=>trivial
  simp only[e2,e3,hcB,hdB,hqB,Exp.cells_len,Nk,Nj,Q1,seval]
  refine⟨fun hk=>⟨fun hi=> ?_,fun hi=> ?_⟩,fun hk=> ?_⟩
  ·refine Qg (fin (l:=8) (by simp [hk,hi])) ?_
   rintro o B' ⟨rfl,h⟩
   simp only[QR,Q1,seval]
   exact J2 (Wk.refl _) (VU.refl _) ⟨rfl,by simpa using un h⟩
  ·refine Qg (fin (l:=6) (by simp [hi])) ?_
   rintro o B' ⟨rfl,h⟩
   simp only[QR,Q1,seval]
   exact J2 (Wk.refl _) (VU.refl _) ⟨rfl,by simpa using un h⟩
  ·refine Qg (fin (l:=6) (by simp [hk])) ?_
   rintro o B' ⟨rfl,h⟩
   simp only[QR,Q1,seval]
   exact J2 (Wk.refl _) (VU.refl _) ⟨rfl,by simpa using un h⟩
 ·have hx1:=har 1 (by simp [Zu,h4])
  obtain⟨x0,rfl⟩:=fZ.1 hx1
  have e:Vu k n i [x0] ([x0].map Qz)=[33]++Je 6 x0.kind (Qz x0):=by simp [Vu,h4]
  rw[e]at hl⊢
  simp only[cC,cE,cL]at hl
  have hT0:=hT x0 (by simp)
  refine Qg (SH G (c:=33) h (by omega)) ?_
  rintro o B ⟨rfl,h⟩
  have hcB:=h.ovr.keep hc1
  have hdB:=h.ovr.keep QO
  simp only[Exp.cellsL]at hdB
  simp only[e2,e3,hcB,hdB,Exp.cells_len,Q1,seval]
  refine Qg (Hz G hT0 h hc1 (l:=6) (by simp only[cC,cE,cL];omega)) ?_
  rintro o B' ⟨rfl,h⟩
  simp only[QR,Q1,seval]
  exact J2 (Wk.refl _) (VU.refl _) ⟨rfl,by simpa using un h⟩
 ·have hx1:=har 3 (by simp [Zu,h18])
  obtain⟨x0,x1,x2,rfl⟩:∃a b c,xs=[a,b,c]:=by
   match xs,hx1 with
   |[a,b,c],_=>exact⟨_,_,_,rfl⟩
  have e:Vu k n i [x0,x1,x2] ([x0,x1,x2].map Qz)=Je 1 x0.kind (Qz x0)++[32,63,32]++Qz x1++[32,58,32]++Qz x2:=by simp [Vu,h18]
  rw[e]at hl⊢
  simp only[cC,cE,cL]at hl
  have hd8:(Exp.cells x0++(Exp.cells x1++Exp.cells x2)).drop 8=Exp.cells x2:=by
   rw[←cU];exact List.drop_left' (by simp [Exp.cells_len])
  have hd4:(Exp.cells x0++(Exp.cells x1++Exp.cells x2)).drop 4=Exp.cells x1++Exp.cells x2:=List.drop_left' (Exp.cells_len x0)
  have hz2:4≤x2.cells.length:=by rw[Exp.cells_len];exact fG _
  simp only[Exp.cellsL]at hdB
  simp only[e2,e3,hcB,hdB,Exp.cellsL,Exp.cells_len,Q1,seval]
  refine Qg (Hz G (hT x0 (by simp)) h hc1 (l:=1) (by omega)) ?_
  rintro o B ⟨rfl,h⟩
  have hcB:=h.ovr.keep hc1
  have hdB:=h.ovr.keep QO
  simp only[Exp.cellsL]at hdB
  simp only[e2,e3,hcB,hdB,Q1,seval]
  refine Qg (VT G h (by simp;omega)) ?_
  rintro o B ⟨rfl,h⟩
  have hcB:=h.ovr.keep hc1
  have hdB:=h.ovr.keep QO
  simp only[Exp.cellsL]at hdB
  simp only[e2,e3,hcB,hdB,hd4,Exp.cells_len,QM,Q1,seval]
  refine Qg (hT x1 (by simp) A1 B b _ h (by simp;omega)) ?_
  rintro o B ⟨rfl,h⟩
  have hcB:=h.ovr.keep hc1
  have hdB:=h.ovr.keep QO
  simp only[Exp.cellsL]at hdB
  simp only[e2,e3,hcB,hdB,QM,Q1,seval]
  refine Qg (VT G h (by simp;omega)) ?_
  rintro o B ⟨rfl,h⟩
  have hcB:=h.ovr.keep hc1
  have hdB:=h.ovr.keep QO
  simp only[Exp.cellsL]at hdB
  simp only[e2,e3,hcB,hdB,hd8,Exp.cells_len,Exp.cells_take,fC hz2,QM,Q1,seval]
  refine Qg (hT x2 (by simp) A1 B b _ h (by simp;omega)) ?_
  rintro o B ⟨rfl,h⟩
  simp only[QM,QR,Q1,seval]
  exact J2 (Wk.refl _) (VU.refl _) ⟨rfl,by simpa[cU]using un h⟩
 ·have e:Vu k n i xs (xs.map Qz)=n++[40]++Lib.join (xs.map Qz) [44,32]++[41]:=by simp [Vu,h19]
  rw[e]at hl⊢
  simp only[cC,cE,cL]at hl
  refine⟨by omega,Qg (VT G h (by simp;omega)) ?_⟩
  rintro o B ⟨rfl,h⟩
  have hcB:=h.ovr.keep hc1
  have hdB:=h.ovr.keep QO
  simp only[e2,e3,hcB,hdB,Q1,seval]
  refine Qt (fun m env ds B=>∃pre post,xs=pre++post∧m=post.length∧env 2=.ptr c 0∧env 124=.slice 4 xs.length (Exp.cellsL xs) none∧env 125=i64 xs.length∧env 126=i64 pre.length∧ds=[]∧Bd A1 b (bs++(n++[40]++Lib.join (pre.map Qz) [44,32])) B) xs.length
   ⟨[],xs,rfl,rfl,e2,rfl,rfl,rfl,rfl,by simpa[Lib.join_nil]using h⟩ ?_
  clear h hcB hdB e2 e3
  rintro m env ds B ⟨pre,post,hpp,rfl,e2,e124,e125,e126,rfl,h⟩
  have hl2:(pre.length:Int)+post.length=xs.length:=by rw[hpp];simp
  have hcB:=h.ovr.keep hc1
  cases post with
  |nil=>
   have hlt:¬((pre.length:Int)<xs.length):=by simp at hl2;omega
   have hpl:xs=pre:=by rw[hpp];simp
   rw[←hpl]at h
   simp only[e2,e124,e125,e126,hcB,Q1,seval]
   refine⟨fun h=>absurd h hlt,fun _=>Qg (SH G (c:=41) h (by simp;omega)) ?_⟩
   rintro o B ⟨rfl,h⟩
   simp only[QR,Q1,seval]
   exact J2 (Wk.refl _) (VU.refl _) ⟨rfl,by simpa[cU]using un h⟩
  |cons x post=>
   have hlt:((pre.length:Int)<xs.length):=by simp at hl2;omega
   have e5:IntKind.i64.wrap ((pre.length:Int)+1)=((pre++[x]).length:Nat):=by rw[Qe (by omega) (by omega)];simp
   simp only[e2,e124,e125,e126,hcB,Q1,seval]
   refine⟨fun _=>⟨hlt,?_⟩,fun h=>absurd hlt h⟩
   have hd:(Exp.cellsL xs).drop (pre.length*4)=Exp.cells x++post.flatMap Exp.cells:=by rw[Exp.cellsL_eq,hpp,Zd Exp.cells_len];simp
   rw[hd,dM (Exp.cells_len x)]
   refine⟨by simp [Exp.cells_len],fun q hq=> ?_⟩
   rw[H9 (Exp.cells_len x) rfl (Exp.cells_one x),QY]
   have hA1q:=h.ovr.gone hq
   have h:=h.base hq (cs:=x.cells)
   have hc1:=(Q8 A1 q (some (.cells x.cells)) (Q6 hc1 hA1q)).trans hc1
   have un1:∀{bs B},Bd (A1.upd q (some (.cells x.cells))) b bs B→Bd A1 b bs B:=fun h=>h.un hA1q
   have hq1:(A1.upd q (some (.cells x.cells))) q=some (.cells x.cells):=Q0 ..
   generalize B.upd q (some (.cells x.cells))=B at*
   generalize A1.upd q (some (.cells x.cells))=A2 at*
   have hcB:=h.ovr.keep hc1
   have hqB:=h.ovr.keep hq1
   have hjn:(Lib.join ((pre++[x]).map Qz) [44,32]).length≤(Lib.join (xs.map Qz) [44,32]).length:=by
    rw[hpp,show pre++x::post=(pre++[x])++post by simp,lH (l₁:=pre++[x])];exact Dw
   rw[lH,List.map_singleton,My]at hjn
   have next:∀B',Bd A2 b (bs++(n++[40]++Lib.join (pre.map Qz) [44,32])++(if pre=[]then[]else[44,32])++Qz x) B'→Bd A1 b (bs++(n++[40]++Lib.join ((pre++[x]).map Qz) [44,32])) B':=fun B' h=>by
    rw[lH,List.map_singleton,My]
    have:=un1 h
    simpa[cU]using this
   have hTx:=hT x (by rw[hpp];simp)
   simp only[e2,e124,e125,e126,hcB,hqB,Exp.cells_take,Q1,seval]
   simp only[cC]at hjn
   refine⟨fun hpos=> ?_,fun hpos=> ?_⟩
   ·have hpne:pre≠[]:=fun e=>by subst e;simp at hpos
    have hif:(if pre.map Qz=[]then([]:Bs)else[44,32])=[44,32]:=fD (by simpa using hpne)
    rw[hif]at hjn
    rw[fD hpne]at next
    refine Qg (VT G h (by simp at hjn⊢;omega)) ?_
    rintro o B ⟨rfl,h⟩
    have hcB:=h.ovr.keep hc1
    have hqB:=h.ovr.keep hq1
    simp only[e2,e124,e125,e126,hcB,hqB,Exp.cells_take,Exp.cells_len,Q1,seval]
    refine Qg (hTx A2 B b _ h (by simp at hjn⊢;omega)) ?_
    rintro o B ⟨rfl,h⟩
    simp only[e2,e124,e125,e126,e5,Q1,seval]
    exact⟨post.length,by simp,pre++[x],post,by simp [hpp],rfl,rfl,next _ h⟩
   ·have hpne:pre=[]:=by
     cases pre with
     |nil=>rfl
     |cons a r=>exact absurd (by simp) hpos
    have hif:(if pre.map Qz=[]then([]:Bs)else[44,32])=[]:=fC (by simpa using hpne)
    rw[hif]at hjn
    rw[fC hpne]at next
    refine Qg (hTx A2 B b _ h (by simp at hjn⊢;omega)) ?_
    rintro o B ⟨rfl,h⟩
    simp only[e2,e124,e125,e126,e5,Q1,seval]
    exact⟨post.length,by simp,pre++[x],post,by simp [hpp],rfl,rfl,next _ (by simpa using h)⟩
 ·have h517:5≤k∧k≤17:=Decidable.byContradiction fun e=>by
   have:Zu k=none:=by simp only[Zu,h1,h2,h3,h4,h18,h19,e,or_self,if_false]
   simp [Vf,this]at hhd
  have hx1:=har 2 (by simp only[Zu,h1,h2,h3,h4,h517,or_self,if_false,and_self,if_true])
  obtain⟨x0,x1,rfl⟩:∃a b,xs=[a,b]:=by
   match xs,hx1 with
   |[a,b],_=>exact⟨_,_,rfl⟩
  have hpr:J4 k=(Ji k).2:=by simp [J4,h1,h2,h3,h4,h18,h19]
  have e:Vu k n i [x0,x1] ([x0,x1].map Qz)=Je (if J4 k=3 then 4 else J4 k) x0.kind (Qz x0)++[32]++(Ji k).1++[32]++Je (J4 k+1) x1.kind (Qz x1):=by simp [Vu,h1,h2,h3,h4,h18,h19]
  rw[e,hpr]at hl⊢
  simp only[cC,cE,cL]at hl
  have hd4:(Exp.cells x0++Exp.cells x1).drop 4=Exp.cells x1:=List.drop_left' (Exp.cells_len x0)
  simp only[Exp.cellsL,cN]at QO hdB
  have ho5:(Ji k).2≤5:=by
   have:k=5∨k=6∨k=7∨k=8∨k=9∨k=10∨k=11∨k=12∨k=13∨k=14∨k=15∨k=16∨k=17:=by omega
   rcases this with rfl|rfl|rfl|rfl|rfl|rfl|rfl|rfl|rfl|rfl|rfl|rfl|rfl <;> decide
  refine Q3 (Gu G k _) ?_
  generalize hop:Ji k=op at*
  obtain⟨sg,rk⟩:=op
  simp only at hl ho5⊢
  have e6:IntKind.i64.wrap ((rk:Int)+1)=((rk+1:Nat):Int):=by rw[Qe (by omega) (by omega)];rfl
  simp only[e2,e3,hcB,hdB,Exp.cells_len,Exp.cells_take,e6,Q1,seval]
  refine⟨fun h3=> ?_,fun h3=> ?_⟩
  ·have hrk:rk=3:=by omega
   have hif:(if rk=3 then 4 else rk)=rk+1:=by rw[fC hrk,hrk]
   refine Qg (Hz G (hT x0 (by simp)) h hc1 (l:=rk+1) (by rw[hif]at hl;omega)) ?_
   rintro o B ⟨rfl,h⟩
   have hcB:=h.ovr.keep hc1
   have hdB:=h.ovr.keep QO
   rw[hif]at hl⊢
   simp only[e2,e3,hcB,hdB,Exp.cells_len,Exp.cells_take,e6,Q1,seval]
   refine⟨by omega,by omega,Qg (VT G h (by simp;omega)) ?_⟩
   rintro o B ⟨rfl,h⟩
   have hcB:=h.ovr.keep hc1
   have hdB:=h.ovr.keep QO
   simp only[e2,e3,hcB,hdB,hd4,Exp.cells_len,Exp.cells_take,e6,Q1,seval]
   refine Qg (Hz G (hT x1 (by simp)) h hc1 (l:=rk+1) (by simp;omega)) ?_
   rintro o B ⟨rfl,h⟩
   simp only[QR,Q1,seval]
   exact J2 (Wk.refl _) (VU.refl _) ⟨rfl,by simpa[cU]using un h⟩
  ·have hif:(if rk=3 then 4 else rk)=rk:=fD (by omega)
   refine Qg (Hz G (hT x0 (by simp)) h hc1 (l:=rk) (by rw[hif]at hl;omega)) ?_
   rintro o B ⟨rfl,h⟩
   have hcB:=h.ovr.keep hc1
   have hdB:=h.ovr.keep QO
   rw[hif]at hl⊢
   simp only[e2,e3,hcB,hdB,Exp.cells_len,Exp.cells_take,e6,Q1,seval]
   refine⟨by omega,by omega,Qg (VT G h (by simp;omega)) ?_⟩
   rintro o B ⟨rfl,h⟩
   have hcB:=h.ovr.keep hc1
   have hdB:=h.ovr.keep QO
   simp only[e2,e3,hcB,hdB,hd4,Exp.cells_len,Exp.cells_take,e6,Q1,seval]
   refine Qg (Hz G (hT x1 (by simp)) h hc1 (l:=rk+1) (by simp;omega)) ?_
   rintro o B ⟨rfl,h⟩
   simp only[QR,Q1,seval]
   exact J2 (Wk.refl _) (VU.refl _) ⟨rfl,by simpa[cU]using un h⟩
end
open Go.RowKit
theorem OV:∀d:Nat,Lib.repeatL [9] d=ZV d
 |0=>rfl
 |d+1=>by
  have:=OV d
  simp only[Lib.repeatL,ZV,List.replicate_succ]at this⊢
  simpa using this
theorem Mr {κ:Kn}{A:Q2}{w:World}{G:Nat→Option (List AV)}(hr:Rel G κ A w){g:Nat}:∀(l:List Bs) (o:Nat),Zs κ g (l.flatMap Zp) o→∀j x,l[j]? =some x→w.cell? ⟨g,o+j,none⟩=some (.string ⟨x.toArray⟩)
 |[],_,_,_,_,h=>by simp at h
 |c::l,o,h,j,x,hx=>by
  simp only[dD,Zp,cF,cI,Zs]at h
  obtain⟨⟨y,h1,h2⟩,h3⟩:=h
  cases j with
  |zero=>
   simp only[lL,cA]at hx;subst hx
   rw[UB h2]at h1
   exact hr.imm _ _ _ h1
  |succ j=>
   have:=Mr hr l (o+1) h3 j x (by simpa using hx)
   rw[show o+(j+1)=o+1+j from by omega];exact this
theorem Zb {a b:Bs}(h:a.length+b.length≤9223372036854775807):Qh .add .num (.str a) (.str b)=some (.str (a++b)):=by
 simp only[Qh,ZR];rw[fC h]
theorem QU.unset {A B:Q2}{d:Nat}{cs:List AV}(h:QU (A.upd d (some (.cells cs))) B)(hd:A d=none):QU A B:=QU.trans ((QU.refl A).set hd (by simp)) h
section
variable (G:Nat→Option (List AV))
theorem f183 (d:Nat)(A:Q2)(hd:d≤140737488355328):QB Tryz.prog G 183 [.str [9],i64 d] A (.str (ZV d)) A:=
 X9 (by kernel_rfl) fun κ w hr vs hvs=>by
  obtain⟨x,y,rfl,hx,hy⟩:=X7 hvs
  rw[UB hx,JY hy]
  refine(Tryz.strings_Repeat ⟨#[9]⟩ d w (by omega) (by simp [ByteArray.size];omega)).mono ?_
  rintro e w' ⟨rfl,hb⟩
  refine⟨hb,_,rfl,?_⟩
  simp only[Qd]
  rw[←OV]
theorem f42 (l:List Bs)(sep:Bs){n:Nat}{cs:List AV}{t:Option Nat}(hn:n=l.length)(hcs:cs=l.flatMap Zp)(A:Q2)(hl:l.length≤140737488355328)(hj:(Lib.join l sep).length≤140737488355328):QB Tryz.prog G 42 [.slice 1 n cs t,.str sep] A (.str (Lib.join l sep)) A:=
 X9 (by kernel_rfl) fun κ w hr vs hvs=>by
  subst hn hcs
  obtain⟨x,y,rfl,hx,hy⟩:=X7 hvs
  rw[UB hy]
  simp only[Qd]at hx
  have hmap:(l.map fun x=>(⟨x.toArray⟩:ByteArray)).map (·.data.toList)=l:=by simp [List.map_map,Function.comp_def]
  have nilc:∀(a:Option Addr) (c:Nat),l=[]→Calls Tryz.prog 42 #[.slice a l.length c,.string ⟨sep.toArray⟩] w fun e w'=>Below w.heap.size w w'∧∃u,e=.returned u∧Qd κ (.str (Lib.join l sep)) u:=fun a c h0=>by
   subst h0
   refine(Tryz.strings_Join_none a c ⟨sep.toArray⟩ w).mono ?_
   rintro e w' ⟨rfl,rfl⟩
   exact⟨.refl _ _,_,rfl,by simp [Qd,Lib.join_nil]⟩
  rcases hx with⟨_,h1,_,a,rfl⟩|⟨b,o,cap,rfl,hcap,_,hc,_⟩
  ·have:=nilc a 0 (fJ.1 h1)
   rw[h1]at this;exact this
  ·by_cases h0:l=[]
   ·exact nilc _ _ h0
   have hcell:=Mr hr l o hc
   have hblk:b<w.heap.size:=by
    obtain⟨x,r,rfl⟩:=List.exists_cons_of_ne_nil h0
    have:=hcell 0 x rfl
    rcases fH b w.heap.size with h|h
    ·exact h
    ·simp [World.cell?,lD h]at this
   have:=Tryz.strings_Join b o cap (l.map fun x=>(⟨x.toArray⟩:ByteArray)) ⟨sep.toArray⟩ w (fun j x hx=>by
    rw[List.getElem?_map,cG]at hx
    obtain⟨y,hy,rfl⟩:=hx
    exact hcell j y hy) hblk (by simpa using hl) (by simpa using hcap) (by rw[hmap];simpa using hj)
   rw[hmap,lG]at this
   refine this.mono ?_
   rintro e w' ⟨rfl,hb⟩
   exact⟨hb,_,rfl,by simp [Qd]⟩
theorem P0 {d:Nat}{k:Int}{n:Bs}{v:Exp}{b e:List Stmt}:(ZV d).length+(Qz v).length+2≤(Vk d (.mk k n v b e)).length:=by
 simp only[Vk,cC]
 split
 ·simp;omega
 ·simp;omega
theorem ZJ (d:Nat):(ZV d).length=d:=by simp [ZV]
def Ei (d:Nat)(l:List Stmt):Prop:=∀(A B:Q2) (b:Nat) (bs:Bs),Bd A b bs B→d≤140737488355328→bs.length+(Zo d l).length≤140737488355328→Qq Tryz.prog G 108 [.ptr b 0,.slice 8 l.length (Stmt.cellsL l) none,i64 d] B (WrT A b (bs++Zo d l))
theorem HC {d:Nat}{a b:List Stmt}:Zo d (a++b)=Zo d a++Zo d b:=by simp only[OG,List.flatMap_append]
theorem zL (hG:Gl G):∀(l:List Stmt) (d:Nat),US l=true→Wn l→l.length<2^60→Ei G d l:=by
 intro l
 induction hn:SizeOf.sizeOf l using Nat.strongRecOn generalizing l with
 |_ sz ih=>
 intro d hwf hlt hll A B b bs h hd hl
 refine Q4 l108 (fE rfl) ?_
 simp only[Az,Q1,seval]
 refine Q3 (f183 G d _ hd) ?_
 simp only[Q1,seval]
 refine Qt (fun m env ds B=>∃pre post,l=pre++post∧m=post.length∧env 0=.ptr b 0∧env 2=i64 d∧env 6=.str (ZV d)∧env 11=.slice 8 l.length (Stmt.cellsL l) none∧env 12=i64 l.length∧env 13=i64 pre.length∧ds=[]∧Bd A b (bs++Zo d pre) B) l.length
  ⟨[],l,rfl,rfl,rfl,rfl,rfl,rfl,rfl,rfl,rfl,by simpa[Zo]using h⟩ ?_
 clear h
 rintro m env ds B ⟨pre,post,hpp,rfl,e0,e2,e6,e11,e12,e13,rfl,h⟩
 have hl2:(pre.length:Int)+post.length=l.length:=by rw[hpp];simp
 cases post with
 |nil=>
  have hlt:¬((pre.length:Int)<l.length):=by simp at hl2;omega
  have hpl:l=pre:=by rw[hpp];simp
  rw[←hpl]at h
  simp only[e0,e2,e6,e11,e12,e13,QR,Q1,seval]
  exact⟨fun h=>absurd h hlt,fun _=>J2 (Wk.refl _) (VU.refl _) ⟨rfl,h⟩⟩
 |cons x post=>
  have hlti:((pre.length:Int)<l.length):=by simp at hl2;omega
  have e5:IntKind.i64.wrap ((pre.length:Int)+1)=((pre++[x]).length:Nat):=by rw[Qe (by omega) (by omega)];simp
  have hmem:x∈l:=by rw[hpp];simp
  have hx:=Ws l▸hwf
  have hwx:=cH.1 hx x hmem
  have hltx:=Uy hlt x hmem
  have hszx:=cY hmem
  have htot:bs.length+(Zo d pre).length+(Vk d x).length≤140737488355328:=by
   rw[hpp,show pre++x::post=pre++[x]++post by simp,HC,HC]at hl
   simp only[Zo,cC,cN]at hl
   omega
  have next:∀B',Bd A b (bs++Zo d pre++Vk d x) B'→Bd A b (bs++Zo d (pre++[x])) B':=fun B' h=>by
   rw[HC];simpa[Zo,cU]using h
  simp only[e0,e2,e6,e11,e12,e13,Q1,seval]
  refine⟨fun _=>⟨hlti,?_⟩,fun h=>absurd hlti h⟩
  have hdr:(Stmt.cellsL l).drop (pre.length*8)=Stmt.cells x++post.flatMap Stmt.cells:=by rw[Stmt.cellsL_eq,hpp,Zd Stmt.cells_len];simp
  rw[hdr,dM (Stmt.cells_len x)]
  refine⟨by simp [Stmt.cells_len],fun q hq=> ?_⟩
  obtain⟨k,n,v,bo',el⟩:=x
  obtain⟨vk,vn,vi,vs⟩:=v
  simp only[Stmt.cells,Exp.cells,e0,e2,e6,e11,e12,e13,Q1,seval]
  have hAq:=h.ovr.gone hq
  have h:=h.base hq (cs:=[i64 k,.str n,i64 vk,.str vn,i64 vi,.slice 4 vs.length (Exp.cellsL vs) none,.slice 8 bo'.length (Stmt.cellsL bo') none,.slice 8 el.length (Stmt.cellsL el) none])
  have un:∀{bs B},Bd (A.upd q (some (.cells [i64 k,.str n,i64 vk,.str vn,i64 vi,.slice 4 vs.length (Exp.cellsL vs) none,.slice 8 bo'.length (Stmt.cellsL bo') none,.slice 8 el.length (Stmt.cellsL el) none]))) b bs B→Bd A b bs B:=fun h=>h.un hAq
  have hq1:(A.upd q (some (.cells [i64 k,.str n,i64 vk,.str vn,i64 vi,.slice 4 vs.length (Exp.cellsL vs) none,.slice 8 bo'.length (Stmt.cellsL bo') none,.slice 8 el.length (Stmt.cellsL el) none]))) q=some (.cells [i64 k,.str n,i64 vk,.str vn,i64 vi,.slice 4 vs.length (Exp.cellsL vs) none,.slice 8 bo'.length (Stmt.cellsL bo') none,.slice 8 el.length (Stmt.cellsL el) none]):=Q0 ..
  generalize B.upd q (some (.cells [i64 k,.str n,i64 vk,.str vn,i64 vi,.slice 4 vs.length (Exp.cellsL vs) none,.slice 8 bo'.length (Stmt.cellsL bo') none,.slice 8 el.length (Stmt.cellsL el) none]))=B at*
  generalize A.upd q (some (.cells [i64 k,.str n,i64 vk,.str vn,i64 vi,.slice 4 vs.length (Exp.cellsL vs) none,.slice 8 bo'.length (Stmt.cellsL bo') none,.slice 8 el.length (Stmt.cellsL el) none]))=A1 at*
  have hvE:=P0 (d:=d) (k:=k) (n:=n) (v:=.mk vk vn vi vs) (b:=bo') (e:=el)
  rw[ZJ]at hvE
  simp only[Uj,cD]at hwx
  simp only[Kq]at hltx
  obtain⟨lt1,lt2,lt3,lt4,lt5,lt6⟩:=hltx
  have hTv:=Ea G hG (.mk vk vn vi vs) hwx.1.1.2 lt2
  have hTb:=ih _ (by rw[←hn];simp only[Stmt.mk.sizeOf_spec]at hszx;omega) bo' rfl (d+1) hwx.1.2 lt5 lt3
  have hTe:=ih _ (by rw[←hn];simp only[Stmt.mk.sizeOf_spec]at hszx;omega) el rfl (d+1) hwx.2 lt6 lt4
  have hexp:Zr (.mk vk vn vi vs)=.agg [i64 vk,.str vn,i64 vi,.slice 4 vs.length (Exp.cellsL vs) none]:=rfl
  have e7:IntKind.i64.wrap ((d:Int)+1)=((d+1:Nat):Int):=by rw[Qe (by omega) (by omega)];rfl
  have htS:Vk d (.mk k n (.mk vk vn vi vs) bo' el)=ZV d++(Ym k n++(Qz (.mk vk vn vi vs)++(if k=3∨k=4 then[41,32,123,10]++(Zo (d+1) bo'++((if el.isEmpty then[]else ZV d++([125,32,101,108,115,101,32,123,10]++Zo (d+1) el))++(ZV d++[125,10])))else[59,10]))):=by rw[Vk]
  rw[htS]at htot next
  simp only[cC,ZJ]at htot
  refine Qg (VT G h (by simp [ZJ];omega)) ?_
  rintro o B ⟨rfl,h⟩
  simp only[Ha,OB]
  refine Qb (fun env ds B=>env 0=.ptr b 0∧env 2=i64 d∧env 6=.str (ZV d)∧env 8=.ptr q 0∧env 11=.slice 8 l.length (Stmt.cellsL l) none∧env 12=i64 l.length∧env 13=i64 pre.length∧ds=[]∧Bd A1 b (bs++Zo d pre++ZV d++Ym k n) B) ?_ ?_
  ·have hqB:=h.ovr.keep hq1
   have hh:Ym k n=if k=1 then[118,97,114,32]++n++[32,61,32]else if k=2 then n++[32,61,32]else if k=5 then[114,101,116,117,114,110,32]else if k=3 then[105,102,32,40]else if k=4 then[119,104,105,108,101,32,40]else[]:=rfl
   simp only[e0,e2,e6,e11,e12,e13,hqB,Q1,seval]
   refine⟨fun k1=> ?_,fun k1=>⟨fun k2=> ?_,fun k2=>⟨fun k5=> ?_,fun k5=>⟨fun k3=> ?_,fun k3=>⟨fun k4=> ?_,fun k4=> ?_⟩⟩⟩⟩⟩
   ·have e:Ym k n=[118,97,114,32]++n++[32,61,32]:=by simp [Ym,k1]
    refine⟨by omega,by omega,Qg (VT G h (by rw[e]at htot;simp [ZJ]at htot⊢;omega)) ?_⟩
    rintro o B ⟨rfl,h⟩
    simp only[e0,e2,e6,e11,e12,e13,Q1,seval]
    rw[e];simpa[cU]using h
   ·have e:Ym k n=n++[32,61,32]:=by simp [Ym,k2]
    refine⟨by omega,Qg (VT G h (by rw[e]at htot;simp [ZJ]at htot⊢;omega)) ?_⟩
    rintro o B ⟨rfl,h⟩
    simp only[e0,e2,e6,e11,e12,e13,Q1,seval]
    rw[e];simpa[cU]using h
   ·have e:Ym k n=[114,101,116,117,114,110,32]:=by simp [Ym,k5]
    refine Qg (VT G h (by rw[e]at htot;simp [ZJ]at htot⊢;omega)) ?_
    rintro o B ⟨rfl,h⟩
    simp only[e0,e2,e6,e11,e12,e13,Q1,seval]
    rw[e];simpa[cU]using h
   ·have e:Ym k n=[105,102,32,40]:=by simp [Ym,k3]
    refine Qg (VT G h (by rw[e]at htot;simp [ZJ]at htot⊢;omega)) ?_
    rintro o B ⟨rfl,h⟩
    simp only[e0,e2,e6,e11,e12,e13,Q1,seval]
    rw[e];simpa[cU]using h
   ·have e:Ym k n=[119,104,105,108,101,32,40]:=by simp [Ym,k4]
    refine Qg (VT G h (by rw[e]at htot;simp [ZJ]at htot⊢;omega)) ?_
    rintro o B ⟨rfl,h⟩
    simp only[e0,e2,e6,e11,e12,e13,Q1,seval]
    rw[e];simpa[cU]using h
   ·have e:Ym k n=[]:=by simp [Ym,k1,k2,k3,k4,k5]
    rw[e,cN];exact h
  clear h e0 e2 e6 e11 e12 e13
  rintro env ds B ⟨e0,e2,e6,e8,e11,e12,e13,rfl,h⟩
  have hqB:=h.ovr.keep hq1
  simp only[e0,e8,hqB,Q1,seval]
  rw[←hexp]
  refine Qg (hTv A1 B b _ h (by simp [ZJ];omega)) ?_
  rintro o B ⟨rfl,h⟩
  have hqB:=h.ovr.keep hq1
  by_cases hk:k=3∨k=4
  ·simp only[fC hk,cC,cE,cL,ZJ]at htot
   rw[fC hk]at next
   simp only[e0,e8,hqB,Q1,seval]
   refine⟨fun k3=> ?_,fun k3=>⟨fun k4=> ?_,fun k4=>absurd hk (by simp [k3,k4])⟩⟩
   all_goals
    refine Qg (VT G h (by simp [ZJ];omega)) ?_
    rintro o B ⟨rfl,h⟩
    have hqB:=h.ovr.keep hq1
    simp only[e0,e2,e8,hqB,e7,Q1,seval]
    refine Qg (hTb A1 B b _ h (by omega) (by simp [ZJ];omega)) ?_
    rintro o B ⟨rfl,h⟩
    have hqB:=h.ovr.keep hq1
    simp only[e0,e2,e6,e8,hqB,e7,Q1,seval]
    refine⟨fun hel=> ?_,fun hel=> ?_⟩
    ·have hemp:el.isEmpty=false:=by cases el with|nil=>simp at hel|cons=>rfl
     simp only[hemp,cB,if_false,cC,cE,cL,ZJ]at htot
     simp only[hemp,cB,if_false]at next
     refine⟨by simp [ZJ];omega,Qg (VT G h (by simp [ZJ];omega)) ?_⟩
     rintro o B ⟨rfl,h⟩
     have hqB:=h.ovr.keep hq1
     simp only[e0,e2,e6,e8,hqB,e7,Q1,seval]
     refine Qg (hTe A1 B b _ h (by omega) (by simp [ZJ];omega)) ?_
     rintro o B ⟨rfl,h⟩
     simp only[e0,e2,e6,e8,Q1,seval]
     refine⟨by simp [ZJ];omega,Qg (VT G h (by simp [ZJ];omega)) ?_⟩
     rintro o B ⟨rfl,h⟩
     simp only[e0,e2,e6,e11,e12,e13,e5,Q1,seval]
     exact⟨post.length,by simp,pre++[.mk k n (.mk vk vn vi vs) bo' el],post,by simp [hpp],rfl,rfl,next _ (by simpa[cU]using un h)⟩
    ·have hemp:el.isEmpty=true:=by cases el with|nil=>rfl|cons a r=>exact absurd (by simp) hel
     simp only[hemp,if_true,cC,cE,cL,ZJ]at htot
     simp only[hemp,if_true]at next
     refine⟨by simp [ZJ];omega,Qg (VT G h (by simp [ZJ];omega)) ?_⟩
     rintro o B ⟨rfl,h⟩
     simp only[e0,e2,e6,e11,e12,e13,e5,Q1,seval]
     exact⟨post.length,by simp,pre++[.mk k n (.mk vk vn vi vs) bo' el],post,by simp [hpp],rfl,rfl,next _ (by simpa[cU]using un h)⟩
  ·simp only[fD hk,cE,cL]at htot
   rw[fD hk]at next
   have k3:¬k=3:=fun e=>hk (.inl e)
   have k4:¬k=4:=fun e=>hk (.inr e)
   simp only[e0,e8,hqB,Q1,seval]
   refine⟨fun h=>absurd h k3,fun _=>⟨fun h=>absurd h k4,fun _=>Qg (VT G h (by simp [ZJ];omega)) ?_⟩⟩
   rintro o B ⟨rfl,h⟩
   simp only[e0,e2,e6,e11,e12,e13,e5,Q1,seval]
   exact⟨post.length,by simp,pre++[.mk k n (.mk vk vn vi vs) bo' el],post,by simp [hpp],rfl,rfl,next _ (by simpa[cU]using un h)⟩
theorem Ck (hG:Gl G)(x:Exp){A:Q2}(hw:JA x=true)(hs:J1 x=true)(hlt:Xl x)(hn:(ZH x).nodes<2^61)(hl:(Qz x).length≤140737488355328):QB Tryz.prog G 187 [Zr x] A (.tuple [.str (Qz x),i64 0]) A:=by
 have hch:Up x=0:=by simp [Up,hw,hs]
 obtain⟨k,n,i,xs⟩:=x
 have hexp:Zr (.mk k n i xs)=.agg [i64 k,.str n,i64 i,.slice 4 xs.length (Exp.cellsL xs) none]:=rfl
 refine Q4 l187 (fE rfl) ?_
 rw[hexp]
 simp only[BJ,Q1,seval]
 intro d hd
 rw[←hexp]
 refine Q3 (Gw G _ hlt hn) ?_
 rw[hch]
 simp only[Q1,seval]
 intro b hb ho
 obtain⟨hbd,hb0⟩:=Q9 hb
 have h:=HW hb ho
 simp only[Q5 hbd.symm,Q1,seval]
 rw[←hexp]
 refine Qg (Ea G hG _ hw hlt _ _ b [] h (by simpa using hl)) ?_
 rintro o B ⟨rfl,h⟩
 simp only[Q1,seval]
 refine Q3 (h.string G (by simp;omega)) ?_
 simp only[Q1,seval]
 exact Qc (by simp) (h.ovr.unset hd)
theorem Cn (hG:Gl G)(x:Exp){A:Q2}(hw:JA x=true)(hs:J1 x=true)(hlt:Xl x)(hn:(ZH x).nodes<2^61)(hl:(Qz x).length≤140737488355328):QB Tryz.prog G 114 [Zr x] A (.str (Qz x)) A:=by
 have h187:=Ck G hG x (A:=A) hw hs hlt hn hl
 obtain⟨k,n,i,xs⟩:=x
 have hexp:Zr (.mk k n i xs)=.agg [i64 k,.str n,i64 i,.slice 4 xs.length (Exp.cellsL xs) none]:=rfl
 refine Q4 l114 (fE rfl) ?_
 rw[hexp]
 simp only[As,Q1,seval]
 intro d hd
 rw[←hexp]
 refine Q3 (Ck G hG _ hw hs hlt hn hl) ?_
 simp only[Q1,seval]
 exact Qc rfl ((QU.refl A).set hd (by simp))
theorem k44 (hG:Gl G)(l:List Func){A:Q2}(hw:Um l=true)(hs:JW l=true)(hlt:∀f∈l,Og f)(hlen:l.length<2^60)(hn:(ZY ⟨0,0,false⟩ l).nodes<2^61)(hl:(Vw l).length≤140737488355328):QB Tryz.prog G 44 [Qr 3 Func.cells l] A (.tuple [.str (Vw l),i64 0]) A:=by
 have hch:UU l=0:=by simp [UU,hw,hs]
 refine Q4 l44 (fE rfl) ?_
 simp only[C44,Q1,seval]
 refine Q3 (k59 G l hlt hlen hn) ?_
 rw[hch]
 simp only[Q1,seval]
 intro b hb ho
 have h:=HW hb ho
 simp only[Qr,Q1,seval]
 refine Qt (fun m env ds B=>∃pre post,l=pre++post∧m=post.length∧env 5=.ptr b 0∧env 13=.slice 3 l.length (l.flatMap Func.cells) none∧env 14=i64 l.length∧env 15=i64 pre.length∧ds=[]∧Bd A b (Vw pre) B) l.length
  ⟨[],l,rfl,rfl,rfl,rfl,rfl,rfl,rfl,h⟩ ?_
 clear h
 rintro m env ds B ⟨pre,post,hpp,rfl,e5,e13,e14,e15,rfl,h⟩
 have hl2:(pre.length:Int)+post.length=l.length:=by rw[hpp];simp
 cases post with
 |nil=>
  have hlti:¬((pre.length:Int)<l.length):=by simp at hl2;omega
  have hpl:l=pre:=by rw[hpp];simp
  rw[←hpl]at h
  simp only[e5,e13,e14,e15,Q1,seval]
  refine⟨fun h=>absurd h hlti,fun _=>Q3 (h.string G (by omega)) ?_⟩
  simp only[Q1,seval]
  exact Qc rfl h.ovr
 |cons x post=>
  have hlti:((pre.length:Int)<l.length):=by simp at hl2;omega
  have e6:IntKind.i64.wrap ((pre.length:Int)+1)=((pre++[x]).length:Nat):=by rw[Qe (by omega) (by omega)];simp
  have hmem:x∈l:=by rw[hpp];simp
  have htot:(Vw pre).length+(O8 x).length≤140737488355328:=by
   rw[hpp]at hl
   simp only[Vw,List.flatMap_append,dD,cC]at hl⊢
   omega
  have next:∀B',Bd A b (Vw pre++O8 x) B'→Bd A b (Vw (pre++[x])) B':=fun B' h=>by
   simp only[Vw,List.flatMap_append,dD,List.flatMap_nil,cN]at h⊢;exact h
  have hwx:=cH.1 hw x hmem
  obtain⟨lt1,lt2,lt3,lt4,lt5⟩:=hlt x hmem
  simp only[e5,e13,e14,e15,Q1,seval]
  refine⟨fun _=>⟨hlti,?_⟩,fun h=>absurd hlti h⟩
  have hd:(l.flatMap Func.cells).drop (pre.length*3)=Func.cells x++post.flatMap Func.cells:=by rw[hpp,Zd (sz:=3) (fun _=>rfl)];simp
  rw[hd,dM (show(Func.cells x).length=3 from rfl)]
  refine⟨by simp [Func.cells],fun q hq=> ?_⟩
  obtain⟨n,ps,bo'⟩:=x
  simp only at hwx lt1 lt2 lt3 lt4 lt5
  have htF:O8 ⟨n,ps,bo'⟩=VI++[32]++n++[40]++Lib.join ps [44,32]++[41,32,123,10]++Zo 1 bo'++[125,10]:=rfl
  rw[htF]at htot next
  simp only[cC,cE,cL]at htot
  simp only[Func.cells,Qr,Q1,seval]
  have hAq:=h.ovr.gone hq
  have h:=h.base hq (cs:=[.str n,.slice 1 ps.length (ps.flatMap Zp) none,.slice 8 bo'.length (bo'.flatMap Stmt.cells) none])
  have un:∀{bs B},Bd (A.upd q (some (.cells [.str n,.slice 1 ps.length (ps.flatMap Zp) none,.slice 8 bo'.length (bo'.flatMap Stmt.cells) none]))) b bs B→Bd A b bs B:=fun h=>h.un hAq
  have hq1:(A.upd q (some (.cells [.str n,.slice 1 ps.length (ps.flatMap Zp) none,.slice 8 bo'.length (bo'.flatMap Stmt.cells) none]))) q=some (.cells [.str n,.slice 1 ps.length (ps.flatMap Zp) none,.slice 8 bo'.length (bo'.flatMap Stmt.cells) none]):=Q0 ..
  generalize B.upd q (some (.cells [.str n,.slice 1 ps.length (ps.flatMap Zp) none,.slice 8 bo'.length (bo'.flatMap Stmt.cells) none]))=B at*
  generalize A.upd q (some (.cells [.str n,.slice 1 ps.length (ps.flatMap Zp) none,.slice 8 bo'.length (bo'.flatMap Stmt.cells) none]))=A1 at*
  have hqB:=h.ovr.keep hq1
  simp only[cD]at hwx
  have hTb:=zL G hG bo' 1 hwx.2 lt5 lt4
  unfold Ei at hTb
  have hfl:VI.length=4:=rfl
  have hps:ps.length≤4:=by
   simp only[JW,cD,cH,dZ]at hs
   exact hs.1.1 _ hmem
  rw[Stmt.cellsL_eq]at hTb
  refine ZA (Zb (by simp;omega)) ?_
  simp only[Q1,seval]
  refine ZA (Zb (by simp;omega)) ?_
  simp only[hqB,Q1,seval]
  refine Q3 (f42 G ps [44,32] rfl rfl _ (by omega) (by omega)) ?_
  simp only[hqB,QM,Q1,seval]
  refine ZA (Zb (by simp;omega)) ?_
  simp only[Q1,seval]
  refine ZA (Zb (by simp;omega)) ?_
  simp only[e5,Q1,seval]
  refine Qg (VT G h (by simp;omega)) ?_
  rintro o B ⟨rfl,h⟩
  have hqB:=h.ovr.keep hq1
  simp only[e5,hqB,QM,Q1,seval]
  refine Qg (hTb A1 B b _ h (by omega) (by simp;omega)) ?_
  rintro o B ⟨rfl,h⟩
  simp only[e5,Q1,seval]
  refine Qg (VT G h (by simp;omega)) ?_
  rintro o B ⟨rfl,h⟩
  simp only[e5,e13,e14,e15,e6,Q1,seval]
  exact⟨post.length,by simp,pre++[⟨n,ps,bo'⟩],post,by simp [hpp],rfl,rfl,next _ (by simpa[cU,VI]using un h)⟩
end
end Go.Proofs.YtcbjbgaefighcaaGreatDoor
