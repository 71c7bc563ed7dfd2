/- Part 16 of the proof. -/
import Derived.Test.YtcbjbgaefighcaaGreatDoorT0
import Derived.Test.YtcbjbgaefighcaaGreatDoorT13
import Derived.Test.YtcbjbgaefighcaaGreatDoorT15
set_option linter.all false
namespace Go.Proofs.YtcbjbgaefighcaaGreatDoor
open Go Go.Ax Go.Proofs
theorem GO {α:Type}{l r:List α}{n:Nat}(h:l.length=n):(l++r).take n=l:=by subst h;simp
theorem Dk {α:Type}{l r:List α}{n:Nat}(h:l.length=n):(n≤(l++r).length)=True:=by subst h;simp
def Q1:=And.intro Zk<|And.intro @GO<|And.intro @Dk<|And.intro @Int.toNat_natCast<|@Int.natCast_nonneg
theorem Zd {α:Type}{enc:α→List AV}{sz:Nat}(h:∀a,(enc a).length=sz):∀(pre l:List α),((pre++l).flatMap enc).drop (pre.length*sz)=l.flatMap enc
 |[],l=>by simp
 |a::pre,l=>by
  have ih:=Zd h pre l
  have e:(a::pre).length*sz=(enc a).length+pre.length*sz:=by rw[h a,cE,Nat.succ_mul];omega
  rw[cF,dD,e,←lC,List.drop_left]
  exact ih
theorem QU.wk {A A':Q2}(h:QU A A'):VU A' A:=Xs fun k=>(h k).elim (fun h=>.inl h.symm) fun h=>.inr ⟨h.1,h.2⟩
theorem Qc {A A':Q2}{v v':AV}(h:v=v')(hA:QU A A'):U1 (some v) (fun o A1=>o=.ret v'∧A1=A) A':=Qv h hA.wk
theorem YE {A A':Q2}{v v':AV}(h:Wk v v')(hA:QU A A'):U1 (some v) (fun o A1=>o=.ret v'∧A1=A) A':=J2 h hA.wk ⟨rfl,rfl⟩
def Siz.cells (m:Siz):List AV:=[i64 m.nodes,i64 m.depth,bo m.wide]
theorem WE:∀(l:List Exp) (m:Siz),m.nodes≤(Jw m l).nodes
 |[],m=>by simp [Jw]
 |x::l,m=>by
  have:=WE l (m.inn (ZH x))
  simp only[Jw]
  simp only[Siz.inn]at this⊢
  omega
mutual
theorem We:∀x:Exp,1≤(ZH x).nodes∧(ZH x).depth≤(ZH x).nodes
 | .mk k n i xs=>by
  simp only[ZH]
  have h1:=Ia xs ⟨1,1,decide (xs.length>4)⟩ (by simp)
  have h2:=WE xs ⟨1,1,decide (xs.length>4)⟩
  exact⟨h2,h1⟩
theorem Ia:∀(l:List Exp) (m:Siz),1≤m.nodes∧m.depth≤m.nodes→(Jw m l).depth≤(Jw m l).nodes
 |[],m,h=>by simpa[Jw]using h.2
 |x::l,m,h=>by
  simp only[Jw]
  have h1:=We x
  refine Ia l _ ?_
  simp only[Siz.inn]
  omega
end
theorem Mi (m:Siz)(a b:List Exp):Jw m (a++b)=Jw (Jw m a) b:=by
 induction a generalizing m with
 |nil=>simp [Jw]
 |cons x a ih=>simp only[cF,Jw,ih]
theorem Stmt.cells_take (x:Stmt):x.cells.take 8=x.cells:=dX (by rw[Stmt.cells_len];exact fG _)
theorem Vo:∀(l:List Stmt) (m:Siz),m.nodes≤(Z7 m l).nodes
 |[],m=>by simp [Z7]
 |x::l,m=>by
  have:=Vo l (m.inn (Jc x))
  simp only[Z7]
  simp only[Siz.inn]at this⊢
  omega
mutual
theorem Wd:∀x:Stmt,1≤(Jc x).nodes∧(Jc x).depth≤(Jc x).nodes
 | .mk k n v b e=>by
  simp only[Jc]
  have h0:=We v
  have h1:=Xv b (Siz.inn ⟨1,1,false⟩ (ZH v)) (by simp only[Siz.inn];omega)
  have h2:=Vo b (Siz.inn ⟨1,1,false⟩ (ZH v))
  have h3:=Vo e (Z7 (Siz.inn ⟨1,1,false⟩ (ZH v)) b)
  have h4:1≤(Siz.inn ⟨1,1,false⟩ (ZH v)).nodes:=by simp only[Siz.inn];omega
  exact⟨by omega,Xv e _ ⟨by omega,h1⟩⟩
theorem Xv:∀(l:List Stmt) (m:Siz),1≤m.nodes∧m.depth≤m.nodes→(Z7 m l).depth≤(Z7 m l).nodes
 |[],m,h=>by simpa[Z7]using h.2
 |x::l,m,h=>by
  simp only[Z7]
  have h1:=Wd x
  refine Xv l _ ?_
  simp only[Siz.inn]
  omega
end
theorem Mg (m:Siz)(a b:List Stmt):Z7 m (a++b)=Z7 (Z7 m a) b:=by
 induction a generalizing m with
 |nil=>simp [Z7]
 |cons x a ih=>simp only[cF,Z7,ih]
section
variable (G:Nat→Option (List AV))
theorem Gz {A:Q2}{p:Nat}{m n:Siz}(hp:A p=some (.cells m.cells))(h1:m.nodes+n.nodes<2^62)(h2:m.depth<2^62)(h3:n.depth<2^61):
 QB Tryz.prog G 242 [.ptr p 0,.agg n.cells] A ZD (A.upd p (some (.cells (m.inn n).cells))):=by
 refine Q4 l242 (fE rfl) ?_
 simp only[Ba,Siz.cells,Q1,seval]
 intro b hb
 have hpb:=Q6 hp hb
 simp only[Siz.cells]at hp
 have e1:IntKind.i64.wrap ((m.nodes:Int)+(n.nodes:Int))=((m.nodes+n.nodes:Nat):Int):=by rw[Qe (by omega) (by omega)];rfl
 have e2:IntKind.i64.wrap (1+(n.depth:Int))=((1+n.depth:Nat):Int):=by rw[Qe (by omega) (by omega)];rfl
 have e3:(if(m.depth:Int)<((1+n.depth:Nat):Int)then((1+n.depth:Nat):Int)else(m.depth:Int))=((max m.depth (1+n.depth):Nat):Int):=by
  split <;> omega
 obtain⟨mn,md,mw⟩:=m
 obtain⟨nn,nd,nw⟩:=n
 simp only at hp e1 e2 e3
 cases mw with
 |true=>
  simp only[Q5 hpb,Q5 hpb.symm,hp,e1,e2,e3,QM,Q1,seval]
  exact Qv rfl (QK.wk (r:=p) (by repeat first|exact QK.refl _ _|refine QK.at ?_ _|refine QK.set ?_ (by assumption) (by simp)) (Q0 ..) (by simp))
 |false=>
  simp only[Q5 hpb,Q5 hpb.symm,hp,e1,e2,e3,QM,Q1,seval]
  exact Qv rfl (QK.wk (r:=p) (by repeat first|exact QK.refl _ _|refine QK.at ?_ _|refine QK.set ?_ (by assumption) (by simp)) (Q0 ..) (by simp))
theorem GA:∀(x:Exp) {A:Q2},(ZH x).nodes<2^61→QB Tryz.prog G 198 [Zr x] A (.agg (ZH x).cells) A:=by
 intro x
 induction hn:SizeOf.sizeOf x using Nat.strongRecOn generalizing x with
 |_ sz ih=>
 intro A hb
 obtain⟨k,n,i,xs⟩:=x
 have hlen:xs.length≤(ZH (.mk k n i xs)).nodes:=by
  have key:∀(l:List Exp) (m:Siz),m.nodes+l.length≤(Jw m l).nodes:=by
   intro l
   induction l with
   |nil=>intro m;simp [Jw]
   |cons y l ih=>
    intro m
    have:=ih (m.inn (ZH y))
    have:=(We y).1
    simp only[Jw,cE]
    simp only[Siz.inn]at*
    omega
  have:=key xs ⟨1,1,decide (xs.length>4)⟩
  simp only[ZH];omega
 refine Q4 l198 (fE rfl) ?_
 unfold By
 refine Qb (fun env ds A'=>∃a b,env 1=.ptr a 0∧env 2=.ptr b 0∧ds=[]∧a≠b∧A a=none∧A b=none∧A' a=some (.cells (Exp.mk k n i xs).cells)∧A' b=some (.cells [i64 0,i64 0,bo false])∧QU A A') ?_ ?_
 ·simp only[Zr,Q1,seval]
  intro a ha b hb
  obtain⟨hba,hb0⟩:=Q9 hb
  exact⟨a,b,rfl,rfl,hba.symm,ha,hb0,by rw[Q5 hba.symm,Q0],Q0 ..,(by repeat(first|exact QU.refl _|refine QU.set ?_ (by assumption) (by simp [rk,JG,rd,Zv])))⟩
 rintro env ds A1 ⟨a,b,e1,e2,rfl,hab,ha,hb0',hA1,hB1,hO⟩
 refine Qb (fun env ds A'=>∃c,env 1=.ptr a 0∧env 2=.ptr b 0∧env 3=.ptr c 0∧ds=[]∧A c=none∧b≠c∧A' a=some (.cells (Exp.mk k n i xs).cells)∧A' b=some (.cells [i64 0,i64 0,bo false])∧A' c=some (.cells (Siz.cells ⟨1,1,decide (xs.length>4)⟩))∧QU A A') ?_ ?_
 ·simp only[Exp.cells]at hA1⊢
  simp only[e1,e2,hA1,Q1,seval]
  refine⟨fun h=> ?_,fun h=> ?_⟩
  all_goals
   intro c hc
   have hca:=Q6 hA1 hc
   have hcb:=Q6 hB1 hc
   have hc0:=hO.gone hc
   refine⟨c,rfl,hc0,hcb,by rw[Q5 hca,hA1],by rw[Q5 hcb,hB1],?_,QU.set hO hc0 (by simp)⟩
   rw[Q0]
   simp only[Siz.cells]
   first|rw[fA (by omega)]|rw[fB (by omega)]
   rfl
 rintro env ds A2 ⟨c,e1,e2,e3,rfl,hc0,hbc,hA2,hB2,hC2,hO2⟩
 simp only[Exp.cells]at hA2
 simp only[e1,e2,e3,hA2,Q1,seval]
 have hb':(Jw ⟨1,1,decide (xs.length>4)⟩ xs).nodes<2^61:=by simpa only[ZH]using hb
 refine Qt (fun n env ds A'=>∃pre post:List Exp,xs=pre++post∧n=post.length∧env 2=.ptr b 0∧env 3=.ptr c 0∧env 12=.slice 4 xs.length (Exp.cellsL xs) none∧env 13=i64 xs.length∧env 14=i64 pre.length∧ds=[]∧
  A' b=some (.cells [i64 0,i64 0,bo false])∧A' c=some (.cells (Jw ⟨1,1,decide (xs.length>4)⟩ pre).cells)∧QU A A') xs.length ⟨[],xs,rfl,rfl,by simp [JD,e2],by simp [JD,e3],rfl,rfl,rfl,rfl,hB2,hC2,hO2⟩ ?_
 rintro n env ds A3 ⟨pre,post,hxs,rfl,e2,e3,e12,e13,e14,rfl,hB3,hC3,hO3⟩
 have hl:(pre.length:Int)+post.length=xs.length:=by rw[hxs];simp
 cases post with
 |nil=>
  have hnl:¬((pre.length:Int)<xs.length):=by simp at hl;omega
  simp only[e2,e3,e12,e13,e14,hnl,hB3,hC3,Siz.cells,Q1,seval]
  refine Qc ?_ (QU.set hO3 hb0' (by simp))
  simp only[cN]at hxs
  simp only[ZH,hxs,Siz.cells]
 |cons y post=>
  have hll:((pre.length:Int)<xs.length):=by simp at hl;omega
  have hdr:(Exp.cellsL xs).drop (pre.length*4)=y.cells++Exp.cellsL post:=by
   rw[Exp.cellsL_eq,hxs,Zd Exp.cells_len,dD,Exp.cellsL_eq]
  simp only[e2,e3,e12,e13,e14,hll,hdr,Q1,seval]
  intro e he
  have hec:=Q6 hC3 he
  have heb:=Q6 hB3 he
  have he0:=hO3.gone he
  have hsz:Jw ⟨1,1,decide (xs.length>4)⟩ xs=Jw ((Jw ⟨1,1,decide (xs.length>4)⟩ pre).inn (ZH y)) post:=by
   have key:∀m,Jw m xs=Jw ((Jw m pre).inn (ZH y)) post:=fun m=>by rw[hxs,Mi];rfl
   exact key _
  have hnod:=WE post ((Jw ⟨1,1,decide (xs.length>4)⟩ pre).inn (ZH y))
  rw[←hsz]at hnod
  have QO:=Ia pre ⟨1,1,decide (xs.length>4)⟩ (by simp)
  have hd2:=We y
  have hpn:=WE pre ⟨1,1,decide (xs.length>4)⟩
  simp only[Siz.inn]at hnod
  have hsy:SizeOf.sizeOf y<sz:=by
   rw[←hn,hxs]
   have:SizeOf.sizeOf y<SizeOf.sizeOf (pre++y::post):=cY (by simp)
   simp only[Exp.mk.sizeOf_spec]
   omega
  refine Q3 (ih _ hsy y rfl (by omega)) ?_
  simp only[e2,e3,e12,e13,e14,Q1,seval]
  refine Q3 (Gz G (by rw[Q5 hec,hC3]) (by omega) (by omega) (by omega)) ?_
  simp only[e2,e3,e12,e13,e14,Q1,seval]
  rw[Qe (by simp at hl;omega) (by simp at hl;omega)]
  refine⟨post.length,by simp,pre++[y],post,by simp [hxs],rfl,by simp,?_,?_,QU.set (QU.set hO3 he0 (by simp)) hc0 (by simp)⟩
  ·rw[Q5 hbc,Q5 heb,hB3]
  ·rw[Mi];rfl
theorem GB (m:Siz)(A:Q2):QB Tryz.prog G 197 [.agg m.cells] A (bo m.small) A:=by
 refine Q4 l197 (fE rfl) ?_
 obtain⟨n,d,w⟩:=m
 simp only[Bz,Siz.cells,Q1,seval]
 intro a ha
 have e:Siz.small ⟨n,d,w⟩=(decide (n≤400)&&decide (d≤30)&& !w):=rfl
 rw[e]
 refine⟨fun h1=>⟨fun h2=> ?_,fun h2=> ?_⟩,fun h1=> ?_⟩
 ·refine Qc ?_ (by repeat(first|exact QU.refl _|refine QU.set ?_ (by assumption) (by simp [rk,JG,rd,Zv])))
  rw[fA (by omega),fA (by omega)];simp
 ·refine Qc ?_ (by repeat(first|exact QU.refl _|refine QU.set ?_ (by assumption) (by simp [rk,JG,rd,Zv])))
  rw[fB (show¬d≤30 by omega)];simp
 ·refine Qc ?_ (by repeat(first|exact QU.refl _|refine QU.set ?_ (by assumption) (by simp [rk,JG,rd,Zv])))
  rw[fB (show¬n≤400 by omega)];simp
theorem c196:∀(x:Stmt) {A:Q2},(Jc x).nodes<2^61→QB Tryz.prog G 196 [MW x] A (.agg (Jc x).cells) A:=by
 intro x
 induction hn:SizeOf.sizeOf x using Nat.strongRecOn generalizing x with
 |_ sz ih=>
 intro A hb
 obtain⟨k,n,v,bd,el⟩:=x
 obtain⟨vk,vn,vi,vs⟩:=v
 refine Q4 l196 (fE rfl) ?_
 simp only[BA,MW,Stmt.cells,Exp.cells,Q1,seval]
 intro a ha b hb0 c hc
 obtain⟨hba,hb1'⟩:=Q9 hb0
 obtain⟨hcb,hc1⟩:=Q9 hc
 obtain⟨hca,hc2⟩:=Q9 hc1
 simp only[Q5 hba,Q5 hba.symm,Q5 hcb.symm,Q5 hca.symm,Q1,seval]
 have hv:=We (.mk vk vn vi vs)
 have hS:Jc (.mk k n (.mk vk vn vi vs) bd el)=Z7 (Z7 (Siz.inn ⟨1,1,false⟩ (ZH (.mk vk vn vi vs))) bd) el:=by simp only[Jc]
 have hn1:=Vo bd (Siz.inn ⟨1,1,false⟩ (ZH (.mk vk vn vi vs)))
 have hn2:=Vo el (Z7 (Siz.inn ⟨1,1,false⟩ (ZH (.mk vk vn vi vs))) bd)
 have hb2:=hb
 rw[hS]at hb2
 have hn0:(Siz.inn ⟨1,1,false⟩ (ZH (.mk vk vn vi vs))).nodes=1+(ZH (.mk vk vn vi vs)).nodes:=rfl
 refine Q3 (GA G (.mk vk vn vi vs) (by omega)) ?_
 simp only[Q1,seval]
 refine Q3 (Gz G (m:=⟨1,1,false⟩) (by exact Q0 ..) (by simp only;omega) (by simp only;omega) (by omega)) ?_
 generalize hm0:Siz.inn ⟨1,1,false⟩ (ZH (.mk vk vn vi vs))=m0 at*
 have hm0d:1≤m0.nodes∧m0.depth≤m0.nodes:=by rw[←hm0];simp only[Siz.inn];omega
 simp only[Q5 hba,Q5 hba.symm,Q5 hcb.symm,Q5 hca.symm,Q1,seval]
 refine QW (cs:=[.slice 8 bd.length (Stmt.cellsL bd) none,.slice 8 el.length (Stmt.cellsL el) none]) rfl fun t ht=> ?_
 obtain⟨htc,ht⟩:=Q9 ht
 obtain⟨htb,ht⟩:=Q9 ht
 obtain⟨hta,ht⟩:=Q9 ht
 simp only[Q1,seval]
 have hO0:QU A ((((A.upd a (some (.cells (Stmt.mk k n (.mk vk vn vi vs) bd el).cells))).upd b (some (.cells [i64 0,i64 0,bo false]))).upd c (some (.cells m0.cells))).upd t (some .tip)):=(by repeat(first|exact QU.refl _|refine QU.set ?_ (by assumption) (by simp [rk,JG,rd,Zv])))
 have step:∀(l:List Stmt),l∈[bd,el]→∀(m:Siz),(1≤m.nodes∧m.depth≤m.nodes)→(Z7 m l).nodes<2^61→∀(y:Stmt),y∈l→SizeOf.sizeOf y<sz:=by
  intro l hl m _ _ y hy
  rw[←hn]
  have h1:SizeOf.sizeOf y<SizeOf.sizeOf l:=cY hy
  simp only[dT,dL,or_false]at hl
  simp only[Stmt.mk.sizeOf_spec]
  rcases hl with rfl|rfl <;> omega
 refine Qt (fun n env ds A'=>∃pre post:List (List Stmt),[bd,el]=pre++post∧n=post.length∧env 2=.ptr b 0∧env 3=.ptr c 0∧env 17=.slice 1 2 [.slice 8 bd.length (Stmt.cellsL bd) none,.slice 8 el.length (Stmt.cellsL el) none] (some t)∧env 18=i64 2∧env 19=i64 pre.length∧ds=[]∧
  A' b=some (.cells [i64 0,i64 0,bo false])∧A' c=some (.cells (pre.foldl Z7 m0).cells)∧QU A A') 2 ⟨[],[bd,el],rfl,rfl,rfl,rfl,rfl,rfl,rfl,rfl,?_,?_,hO0⟩ ?_
 ·rw[Q5 htb.symm,Q5 hcb.symm,Q0]
 ·rw[Q5 htc.symm,Q0];rfl
 rintro nn env ds A3 ⟨pre,post,hL,rfl,e2,e3,e17,e18,e19,rfl,hB3,hC3,hO3⟩
 have hl2:(pre.length:Int)+post.length=2:=by have:=congrArg List.length hL;simp at this;omega
 cases post with
 |nil=>
  have hnl:¬((pre.length:Int)<2):=by simp at hl2;omega
  simp only[e2,e3,e17,e18,e19,hnl,hB3,hC3,Siz.cells,Q1,seval]
  refine Qc ?_ (QU.set hO3 hb1' (by simp))
  simp only[cN]at hL
  rw[hS,←hL];rfl
 |cons l post=>
  have hnl:((pre.length:Int)<2):=by simp at hl2;omega
  simp only[e2,e3,e17,e18,e19,hnl,Q1,seval]
  refine JV (v:=.slice 8 l.length (Stmt.cellsL l) none) ?_ ?_
  ·have:([.slice 8 bd.length (Stmt.cellsL bd) none,.slice 8 el.length (Stmt.cellsL el) none]:List AV)=(pre++l::post).map fun l=>.slice 8 l.length (Stmt.cellsL l) none:=by rw[←hL];rfl
   rw[this];simp
  have hlm:l∈[bd,el]:=by rw[hL];simp
  have hmon:∀(L:List (List Stmt)) (m:Siz),m.nodes≤(L.foldl Z7 m).nodes:=by
   intro L
   induction L with
   |nil=>intro m;exact fG _
   |cons x L ih=>intro m;exact fI (Vo x m) (ih _)
  have hdep:∀(L:List (List Stmt)) (m:Siz),(1≤m.nodes∧m.depth≤m.nodes)→1≤(L.foldl Z7 m).nodes∧(L.foldl Z7 m).depth≤(L.foldl Z7 m).nodes:=by
   intro L
   induction L with
   |nil=>intro m h;exact h
   |cons x L ih=>intro m h;exact ih _ ⟨fI h.1 (Vo x m),Xv x m h⟩
  have hP:=hdep pre m0 hm0d
  have hfin:Z7 (Z7 m0 bd) el=post.foldl Z7 (Z7 (pre.foldl Z7 m0) l):=by
   have:Z7 (Z7 m0 bd) el=[bd,el].foldl Z7 m0:=rfl
   rw[this,hL,List.foldl_append];rfl
  have hle:=hmon post (Z7 (pre.foldl Z7 m0) l)
  rw[←hfin]at hle
  generalize hM:pre.foldl Z7 m0=M at*
  simp only[e2,e3,e17,e18,e19,Q1,seval]
  refine Qt (fun n env ds A'=>∃pre2 post2:List Stmt,l=pre2++post2∧n=post2.length∧env 2=.ptr b 0∧env 3=.ptr c 0∧env 17=.slice 1 2 [.slice 8 bd.length (Stmt.cellsL bd) none,.slice 8 el.length (Stmt.cellsL el) none] (some t)∧env 18=i64 2∧env 19=i64 pre.length∧
   env 23=.slice 8 l.length (Stmt.cellsL l) none∧env 24=i64 l.length∧env 25=i64 pre2.length∧ds=[]∧A' b=some (.cells [i64 0,i64 0,bo false])∧A' c=some (.cells (Z7 M pre2).cells)∧QU A A') l.length ⟨[],l,rfl,rfl,e2,e3,e17,e18,e19,rfl,rfl,rfl,rfl,hB3,hC3,hO3⟩ ?_
  rintro nn env ds A4 ⟨pre2,post2,hl',rfl,e2,e3,e17,e18,e19,e23,e24,e25,rfl,hB4,hC4,hO4⟩
  have hl3:(pre2.length:Int)+post2.length=l.length:=by rw[hl'];simp
  have hlb:l.length≤(Z7 M l).nodes:=by
   have key:∀(l:List Stmt) (m:Siz),m.nodes+l.length≤(Z7 m l).nodes:=by
    intro l
    induction l with
    |nil=>intro m;simp [Z7]
    |cons y l ih=>
     intro m
     have:=ih (m.inn (Jc y))
     have:=(Wd y).1
     simp only[Z7,cE]
     simp only[Siz.inn]at*
     omega
   have:=key l M
   omega
  cases post2 with
  |nil=>
   have hnl:¬((pre2.length:Int)<l.length):=by simp at hl3;omega
   simp only[e2,e3,e17,e18,e19,e23,e24,e25,hnl,Q1,seval]
   rw[Qe (by simp at hl2;omega) (by simp at hl2;omega)]
   refine⟨post.length,by simp,pre++[l],post,by simp [hL],rfl,by simp,hB4,?_,hO4⟩
   simp only[cN]at hl'
   rw[hC4,hl',List.foldl_append,hM];rfl
  |cons y post2=>
   have hnl:((pre2.length:Int)<l.length):=by simp at hl3;omega
   have hdr:(Stmt.cellsL l).drop (pre2.length*8)=y.cells++Stmt.cellsL post2:=by
    rw[Stmt.cellsL_eq,hl',Zd Stmt.cells_len,dD,Stmt.cellsL_eq]
   simp only[e2,e3,e17,e18,e19,e23,e24,e25,hnl,hdr,Stmt.cells_len,Stmt.cells_one,Stmt.cells_take,Q1,seval]
   intro e he
   have hec:=Q6 hC4 he
   have heb:=Q6 hB4 he
   have he0:=hO4.gone he
   have hy:y∈l:=by rw[hl'];simp
   have hsz:Z7 M l=Z7 ((Z7 M pre2).inn (Jc y)) post2:=by
    have key:∀m,Z7 m l=Z7 ((Z7 m pre2).inn (Jc y)) post2:=fun m=>by rw[hl',Mg];rfl
    exact key _
   have hnod:=Vo post2 ((Z7 M pre2).inn (Jc y))
   rw[←hsz]at hnod
   have QO:=Xv pre2 M hP
   have hd2:=Wd y
   simp only[Siz.inn]at hnod
   refine Q3 (ih _ (step l hlm M hP (by omega) y hy) y rfl (by omega)) ?_
   simp only[e2,e3,e17,e18,e19,e23,e24,e25,Q1,seval]
   refine Q3 (Gz G (by rw[Q5 hec,hC4]) (by omega) (by omega) (by omega)) ?_
   simp only[e2,e3,e17,e18,e19,e23,e24,e25,Q1,seval]
   rw[Qe (by simp at hl3;omega) (by simp at hl3;omega)]
   refine⟨post2.length,by simp,pre2++[y],post2,by simp [hl'],rfl,by simp,?_,?_,QU.set (QU.set hO4 he0 (by simp)) hc2 (by simp)⟩
   ·rw[Q5 hcb.symm,Q5 heb,hB4]
   ·rw[Mg];rfl
theorem I8:∀(l:List Stmt) (m:Siz),m.nodes≤(Zt m l).nodes
 |[],m=>fG _
 |x::l,m=>by
  have:=I8 l (m.bes (Jc x))
  simp only[Zt,List.foldl_cons]
  simp only[Zt,Siz.bes]at this⊢
  omega
theorem I9:∀(l:List Stmt) (m:Siz),m.depth≤m.nodes→(Zt m l).depth≤(Zt m l).nodes
 |[],m,h=>h
 |x::l,m,h=>by
  have h1:=Wd x
  refine I9 l (m.bes (Jc x)) ?_
  simp only[Siz.bes]
  omega
theorem Ho:∀(l:List Func) (m:Siz),m.nodes≤(ZY m l).nodes
 |[],m=>fG _
 |x::l,m=>fI (I8 x.body m) (Ho l _)
theorem Hp:∀(l:List Func) (m:Siz),m.depth≤m.nodes→(ZY m l).depth≤(ZY m l).nodes
 |[],m,h=>h
 |x::l,m,h=>Hp l _ (I9 x.body m h)
theorem Md (m:Siz)(a b:List Func):ZY m (a++b)=ZY (ZY m a) b:=List.foldl_append
theorem Mb (m:Siz)(a b:List Stmt):Zt m (a++b)=Zt (Zt m a) b:=List.foldl_append
theorem Func.cells_len (f:Func):f.cells.length=3:=by simp [Func.cells]
theorem Func.cells_one (f:Func):f.cells.all AV.one=true:=by simp [Func.cells,Hb,one_sl,Qr]
theorem Func.cells_take (f:Func):f.cells.take 3=f.cells:=by simp [Func.cells]
theorem CE (l:List Func){A:Q2}(hb:(ZY ⟨0,0,false⟩ l).nodes<2^61)(hlen:l.length<2^61)(hbl:∀f∈l,f.params.length<2^61)(hbb:∀f∈l,f.body.length<2^61):
 QB Tryz.prog G 138 [Qr 3 Func.cells l] A (bo (JW l)) A:=by
 refine Q4 l138 (fE rfl) ?_
 simp only[Aa,Qr,Q1,seval]
 intro p hp
 have hOp:QU A (A.upd p (some (.cells [i64 0,i64 0,bo false]))):=(by repeat(first|exact QU.refl _|refine QU.set ?_ (by assumption) (by simp [rk,JG,rd,Zv])))
 refine Qt (fun n env ds A'=>∃pre post:List Func,l=pre++post∧n=post.length∧env 0=.slice 3 l.length (l.flatMap Func.cells) none∧env 3=.ptr p 0∧env 9=.slice 3 l.length (l.flatMap Func.cells) none∧env 10=i64 l.length∧env 11=i64 pre.length∧ds=[]∧
  A' p=some (.cells (ZY ⟨0,0,false⟩ pre).cells)∧pre.all (fun f=>decide (f.params.length≤4))=true∧QU A A') l.length ⟨[],l,rfl,rfl,rfl,rfl,rfl,rfl,rfl,rfl,Q0 ..,rfl,hOp⟩ ?_
 rintro n env ds A1 ⟨pre,post,hl,rfl,e0,e3,e9,e10,e11,rfl,hP,hall,hO⟩
 have hl1:(pre.length:Int)+post.length=l.length:=by rw[hl];simp
 cases post with
 |nil=>
  have hnl:¬((pre.length:Int)<l.length):=by simp at hl1;omega
  simp only[cN]at hl
  rw[←hl]at hP hall
  simp only[e0,e3,e9,e10,e11,hnl,hP,Siz.cells,Q1,seval]
  refine Q3 (GB G (ZY ⟨0,0,false⟩ l) _) ?_
  cases hs:(ZY ⟨0,0,false⟩ l).small with
  |false=>
   simp only[Q1,seval]
   exact Qc (by simp only[JW,hs,dF,dE]) hO
  |true=>
   simp only[e0,Q1,seval]
   refine⟨fun h=>Qc ?_ hO,fun h=>Qc ?_ hO⟩
   ·simp only[JW,hs,hall,fA (show l.length≤8 by omega),dB]
   ·simp only[JW,fB (show¬l.length≤8 by omega),dF]
 |cons f post=>
  have hnl:((pre.length:Int)<l.length):=by simp at hl1;omega
  have hdr:(l.flatMap Func.cells).drop (pre.length*3)=f.cells++post.flatMap Func.cells:=by
   rw[hl,Zd Func.cells_len,dD]
  have hf:f∈l:=by rw[hl];simp
  simp only[e0,e3,e9,e10,e11,hnl,hdr,Func.cells_len,Func.cells_one,Func.cells_take,Q1,seval]
  intro q hq
  have hqp:=Q6 hP hq
  have hq0:=hO.gone hq
  have hbad:¬f.params.length≤4→JW l=false:=fun h=>by
   simp only[JW,hl,fK,dU,fB h,dE,dF]
  have hgood:f.params.length≤4→(pre++[f]).all (fun f=>decide (f.params.length≤4))=true:=fun h=>by
   simp only[fK,hall,dU,fA h,lP,fX]
  simp only[Func.cells,Qr,Q1,seval]
  refine⟨fun h=> ?_,fun h=> ?_⟩
  ·exact Qc (by rw[hbad (by omega)]) (QU.set hO hq0 (by simp))
  have hfe:ZY ⟨0,0,false⟩ l=ZY (Zt (ZY ⟨0,0,false⟩ pre) f.body) post:=by
   have key:∀m,ZY m l=ZY (Zt (ZY m pre) f.body) post:=fun m=>by rw[hl,Md];rfl
   exact key _
  have hle:=Ho post (Zt (ZY ⟨0,0,false⟩ pre) f.body)
  rw[←hfe]at hle
  have hMd:=Hp pre ⟨0,0,false⟩ (fG _)
  generalize hM:ZY ⟨0,0,false⟩ pre=M at*
  have hblen:=hbb f hf
  refine Qt (fun n env ds A'=>∃pre2 post2:List Stmt,f.body=pre2++post2∧n=post2.length∧env 0=.slice 3 l.length (l.flatMap Func.cells) none∧env 3=.ptr p 0∧env 9=.slice 3 l.length (l.flatMap Func.cells) none∧env 10=i64 l.length∧env 11=i64 pre.length∧
   env 20=.slice 8 f.body.length (f.body.flatMap Stmt.cells) none∧env 21=i64 f.body.length∧env 22=i64 pre2.length∧ds=[]∧A' p=some (.cells (Zt M pre2).cells)∧QU A A') f.body.length
   ⟨[],f.body,rfl,rfl,e0,e3,e9,e10,e11,rfl,rfl,rfl,rfl,by rw[Q5 hqp,hP];rfl,QU.set hO hq0 (by simp)⟩ ?_
  rintro n env ds A2 ⟨pre2,post2,hl',rfl,e0,e3,e9,e10,e11,e20,e21,e22,rfl,hP2,hO2⟩
  have hl2:(pre2.length:Int)+post2.length=f.body.length:=by rw[hl'];simp
  cases post2 with
  |nil=>
   have hnl2:¬((pre2.length:Int)<f.body.length):=by simp at hl2;omega
   simp only[e0,e3,e9,e10,e11,e20,e21,e22,hnl2,Q1,seval]
   rw[Qe (by omega) (by omega)]
   refine⟨post.length,by simp,pre++[f],post,by simp [hl],rfl,by simp,?_,hgood (by omega),hO2⟩
   simp only[cN]at hl'
   rw[hP2,Md,hM,←hl'];rfl
  |cons y post2=>
   have hnl2:((pre2.length:Int)<f.body.length):=by simp at hl2;omega
   have hdr2:(f.body.flatMap Stmt.cells).drop (pre2.length*8)=y.cells++post2.flatMap Stmt.cells:=by
    rw[hl',Zd Stmt.cells_len,dD]
   simp only[e0,e3,e9,e10,e11,e20,e21,e22,hnl2,hdr2,Stmt.cells_len,Stmt.cells_one,Stmt.cells_take,Q1,seval]
   intro e he
   have hep:=Q6 hP2 he
   have he0:=hO2.gone he
   have hsz:Zt M f.body=Zt ((Zt M pre2).bes (Jc y)) post2:=by
    have key:∀m,Zt m f.body=Zt ((Zt m pre2).bes (Jc y)) post2:=fun m=>by rw[hl',Mb];rfl
    exact key _
   have hnod:=I8 post2 ((Zt M pre2).bes (Jc y))
   rw[←hsz]at hnod
   have QO:=I9 pre2 M hMd
   have hd2:=Wd y
   simp only[Siz.bes]at hnod
   refine Q3 (c196 G y (by omega)) ?_
   generalize hN:Zt M pre2=N at*
   generalize hY:Jc y=Y at*
   obtain⟨Nn,Nd,Nw⟩:=N
   obtain⟨Yn,Yd,Yw⟩:=Y
   simp only at hnod QO hd2
   have w1:IntKind.i64.wrap ((Nn:Int)+(Yn:Int))=((Nn+Yn:Nat):Int):=by rw[Qe (by omega) (by omega)];rfl
   have w3:(if(Nd:Int)<(Yd:Int)then(Yd:Int)else(Nd:Int))=((max Nd Yd:Nat):Int):=by split <;> omega
   have w4:IntKind.i64.wrap ((pre2.length:Int)+1)=((pre2.length+1:Nat):Int):=by rw[Qe (by omega) (by omega)];rfl
   simp only[Siz.cells]at hP2
   simp only[e0,e3,e9,e10,e11,e20,e21,e22,Siz.cells,Q1,seval]
   intro g hg
   obtain⟨hge,hg⟩:=Q9 hg
   have hgp:=Q6 hP2 hg
   have hg0:=hO2.gone hg
   have hN':Zt M (pre2++[y])=Siz.bes ⟨Nn,Nd,Nw⟩ ⟨Yn,Yd,Yw⟩:=by rw[Mb,hN,←hY];rfl
   cases Nw with
   |true=>
    simp only[e0,e3,e9,e10,e11,e20,e21,e22,Q5 hgp,Q5 hgp.symm,Q5 hep,hP2,w1,w3,w4,QM,Q1,seval]
    refine⟨post2.length,by simp,pre2++[y],post2,by simp [hl'],rfl,by simp,?_,?_⟩
    ·rw[hN'];rfl
    ·exact QU.set (QU.set (QU.set hO2 he0 (by simp)) hg0 (by simp)) hp (by simp)
   |false=>
    simp only[e0,e3,e9,e10,e11,e20,e21,e22,Q5 hgp,Q5 hgp.symm,Q5 hep,hP2,w1,w3,w4,QM,Q1,seval]
    refine⟨post2.length,by simp,pre2++[y],post2,by simp [hl'],rfl,by simp,?_,?_⟩
    ·rw[hN'];rfl
    ·exact QU.set (QU.set (QU.set hO2 he0 (by simp)) hg0 (by simp)) hp (by simp)
end
def Wt {α:Type}(w:α→Nat)(p:Bs→Res α):Prop:=∀s u a u',At s u→p u=.ok a u'→w a+u'.length≤u.length
def J8 {α:Type}(w:α→Nat)(l:List α):Nat:=(l.map w).sum
theorem HG {α:Type}{w:α→Nat}(l m:List α):J8 w (l++m)=J8 w l+J8 w m:=by simp [J8]
theorem IN {α:Type}{w:α→Nat}(a:α):J8 w [a]=w a:=by simp [J8]
theorem Jz {α:Type}{w:α→Nat}:J8 w []=0:=rfl
theorem JR {α:Type}{w:α→Nat}(a:α)(l:List α):J8 w (a::l)=w a+J8 w l:=by simp [J8]
theorem HF {α:Type}{w:α→Nat}(h:∀a,1≤w a):∀l:List α,l.length≤J8 w l
 |[]=>fG _
 |a::l=>by have:=HF h l;have:=h a;rw[JR,cE];omega
theorem PR {α:Type}{w:α→Nat}{sep:Bs}{one:Bs→Res α}(hs:sep≠[])(ht:Tk one)(h1:Wt w one):∀f l s u a u',At s u→ZZ sep one f l u=.ok a u'→J8 w a+u'.length≤J8 w l+u.length
 |0,_,_,_,_,_,_,h=>by simp [ZZ]at h
 |f+1,l,s,u,a,u',hu,h=>by
  simp only[ZZ]at h
  split at h
  ·rename_i hc
   have b0:=Beh.adv hu hc hs
   obtain⟨y,u1,h2,h⟩:=bind_ok h
   have b1:=ht _ _ _ _ b0.at' h2
   have:=h1 _ _ _ _ b0.at' h2
   have:=PR hs ht h1 f _ _ _ _ _ b1.at' h
   rw[HG,IN]at this
   have:=b0.lt
   omega
  ·cases h;omega
theorem Ej {α:Type}{w:α→Nat}{sep:Bs}{one:Bs→Res α}(hs:sep≠[])(ht:Tk one)(h1:Wt w one){f:Nat}:Wt (J8 w) (ZO sep one f):=fun s u a u' hu h=>by
 obtain⟨y,u1,h2,h⟩:=bind_ok h
 have b1:=ht _ _ _ _ hu h2
 have:=h1 _ _ _ _ hu h2
 have:=PR hs ht h1 f _ _ _ _ _ b1.at' h
 rw[IN]at this
 omega
theorem PS {α:Type}{w:α→Nat}{one:Bs→Res α}(ht:Tk one)(h1:Wt w one){f:Nat}:Wt (J8 w) (U7 one f):=fun s u a u' hu h=>by
 unfold U7 at h
 split at h
 ·rename_i hc;cases h
  have:=(Beh.adv hu hc (by decide)).lt
  rw[Jz];omega
 ·obtain⟨_,u1,h1',h⟩:=bind_ok h
  obtain⟨_,u2,h2,h⟩:=bind_ok h
  cases h
  have b1:=VO (by decide) ht _ _ _ _ hu h1'
  have:=Ej (by decide) ht h1 _ _ _ _ hu h1'
  have:=(Qm (by decide) _ _ _ _ b1.at' h2).lt
  omega
theorem Ti {α:Type}{w:α→Nat}{one:Bs→Res α}(ht:Tk one)(h1:Wt w one):∀f l s u a u',At s u→Zy one f l u=.ok a u'→J8 w a+u'.length≤J8 w l+u.length
 |0,_,_,_,_,_,_,h=>by simp [Zy]at h
 |f+1,l,s,u,a,u',hu,h=>by
  simp only[Zy]at h
  split at h
  ·rename_i hc;cases h
   have:=(Beh.adv hu hc (by decide)).lt
   omega
  ·obtain⟨y,u1,h2,h⟩:=bind_ok h
   have b1:=ht _ _ _ _ hu h2
   have:=h1 _ _ _ _ hu h2
   have:=Ti ht h1 f _ _ _ _ _ b1.at' h
   rw[HG,IN]at this
   omega
def Vg (x:Exp):Nat:=(ZH x).nodes
theorem Mh:∀(l:List Exp) (m:Siz),(Jw m l).nodes=m.nodes+J8 Vg l
 |[],m=>rfl
 |x::l,m=>by
  simp only[Jw,Mh l,JR,Siz.inn,Vg];omega
theorem UL (k:Int)(n:Bs)(i:Int)(l:List Exp):Vg (.mk k n i l)=1+J8 Vg l:=by
 simp only[Vg,ZH,Mh]
structure NdE (f:Nat):Prop where
 e:Wt Vg (QZ f)
 r:∀n,Wt Vg (Jx f n)
 l:∀n x s u a u',At s u→ZN f n x u=.ok a u'→Vg a+u'.length≤Vg x+u.length
 u:Wt Vg (Zq f)
 p:Wt Vg (JU f)
theorem ndE:∀f,NdE f
 |0=>⟨fun _ _ _ _ _ h=>by simp [QZ]at h,fun _ _ _ _ _ _ h=>by simp [Jx]at h,fun _ _ _ _ _ _ _ h=>by simp [ZN]at h,fun _ _ _ _ _ h=>by simp [Zq]at h,fun _ _ _ _ _ h=>by simp [JU]at h⟩
 |f+1=>by
  have ih:=ndE f
  have tk:=Hl f
  refine⟨?_,?_,?_,?_,?_⟩
  ·intro s u a u' hu h
   simp only[QZ]at h
   obtain⟨x,u1,h1,h⟩:=bind_ok h
   have b1:=tk.r _ _ _ _ _ hu h1
   have w1:=ih.r _ _ _ _ _ hu h1
   split at h
   ·rename_i hc
    obtain⟨y,u2,h2,h⟩:=bind_ok h
    obtain⟨_,u3,h3,h⟩:=bind_ok h
    obtain⟨z,u4,h4,h⟩:=bind_ok h
    cases h
    have b2:=Beh.adv b1.at' hc (by decide)
    have b3:=tk.e _ _ _ _ b2.at' h2
    have w3:=ih.e _ _ _ _ b2.at' h2
    have b4:=Qm (by decide) _ _ _ _ b3.at' h3
    have w5:=ih.e _ _ _ _ b4.at' h4
    have:=b2.lt;have:=b4.lt
    simp only[UL,JR,Jz];omega
   ·cases h;exact w1
  ·intro n s u a u' hu h
   simp only[Jx]at h
   split at h
   ·exact ih.u _ _ _ _ hu h
   ·obtain⟨x,u1,h1,h⟩:=bind_ok h
    have b1:=tk.r _ _ _ _ _ hu h1
    have:=ih.r _ _ _ _ _ hu h1
    have:=ih.l _ _ _ _ _ _ b1.at' h
    omega
  ·intro n x s u a u' hu h
   simp only[ZN]at h
   split at h
   ·cases h;exact fG _
   ·rename_i k hk
    have b0:=Beh.adv hu rfl (KX hk)
    obtain⟨y,u1,h1,h⟩:=bind_ok h
    have b1:=tk.r _ _ _ _ _ b0.at' h1
    have:=ih.r _ _ _ _ _ b0.at' h1
    have:=b0.lt
    split at h
    ·cases h;simp only[UL,JR,Jz];omega
    ·have:=ih.l _ _ _ _ _ _ b1.at' h
     simp only[UL,JR,Jz]at this;omega
  ·intro s u a u' hu h
   simp only[Zq]at h
   split at h
   ·rename_i hc
    have b0:=Beh.adv hu hc (by decide)
    obtain⟨y,u1,h1,h⟩:=bind_ok h
    cases h
    have:=ih.u _ _ _ _ b0.at' h1
    have:=b0.lt
    simp only[UL,JR,Jz];omega
   ·split at h
    ·rename_i hc
     have b0:=Beh.adv hu hc (by decide)
     have:=b0.lt
     split at h
     ·obtain⟨y,u1,h1,h⟩:=bind_ok h
      cases h
      have:=(Kv _ _ _ _ b0.at' h1).lt
      simp only[UL,Jz];omega
     ·obtain⟨y,u1,h1,h⟩:=bind_ok h
      cases h
      have:=ih.u _ _ _ _ b0.at' h1
      simp only[UL,JR,Jz];omega
    ·exact ih.p _ _ _ _ hu h
  ·intro s u a u' hu h
   simp only[JU]at h
   split at h
   ·obtain⟨y,u1,h1,h⟩:=bind_ok h
    cases h
    have:=(Kv _ _ _ _ hu h1).lt
    simp only[UL,Jz];omega
   ·split at h
    ·rename_i hc
     have b0:=Beh.adv hu hc (by decide)
     obtain⟨y,u1,h1,h⟩:=bind_ok h
     obtain⟨_,u2,h2,h⟩:=bind_ok h
     cases h
     have b1:=tk.e _ _ _ _ b0.at' h1
     have:=ih.e _ _ _ _ b0.at' h1
     have:=(Qm (by decide) _ _ _ _ b1.at' h2).lt
     have:=b0.lt
     omega
    ·obtain⟨y,u1,h1,h⟩:=bind_ok h
     have b1:=QQ _ _ _ _ hu h1
     have:=b1.lt
     split at h
     ·rename_i hc
      have b2:=Beh.adv b1.at' hc (by decide)
      have:=b2.lt
      obtain⟨l,u2,h2,h⟩:=bind_ok h
      cases h
      have:=PS tk.e ih.e _ _ _ _ b2.at' h2
      simp only[UL];omega
     ·cases h;simp only[UL,Jz];omega
theorem Oo {f:Nat}:Wt Vg (QZ f):=(ndE f).e
def Yy (x:Stmt):Nat:=(Jc x).nodes
theorem Mf:∀(l:List Stmt) (m:Siz),(Z7 m l).nodes=m.nodes+J8 Yy l
 |[],m=>rfl
 |x::l,m=>by
  simp only[Z7,Mf l,JR,Siz.inn,Yy];omega
theorem Wp (k:Int)(n:Bs)(v:Exp)(b e:List Stmt):Yy (.mk k n v b e)=1+Vg v+J8 Yy b+J8 Yy e:=by
 simp only[Yy,Jc,Mf];rfl
theorem FA (x:Stmt):1≤Yy x:=by
 obtain⟨k,n,v,b,e⟩:=x
 rw[Wp];omega
structure NdS (f:Nat):Prop where
 b:Wt (J8 Yy) (Zz f)
 s:Wt Yy (ZE f)
theorem PQ {f:Nat}{k:Int}:Wt Yy fun u=>(Z8 u).bind fun n u1=>(Qk [61] u1).bind fun _ u2=>(QZ f u2).bind fun x u3=>(Qk [59] u3).bind fun _ u4=>.ok (Stmt.mk k n x [] []) u4:=fun s u a u' hu h=>by
 obtain⟨_,u1,h1,h⟩:=bind_ok h
 obtain⟨_,u2,h2,h⟩:=bind_ok h
 obtain⟨_,u3,h3,h⟩:=bind_ok h
 obtain⟨_,u4,h4,h⟩:=bind_ok h
 cases h
 have b1:=QQ _ _ _ _ hu h1
 have b2:=Qm (by decide) _ _ _ _ b1.at' h2
 have b3:=JM _ _ _ _ b2.at' h3
 have:=Oo _ _ _ _ b2.at' h3
 have b4:=Qm (by decide) _ _ _ _ b3.at' h4
 have:=b1.lt;have:=b2.lt;have:=b4.lt
 simp only[Wp,Jz];omega
theorem ndS:∀f,NdS f
 |0=>⟨fun _ _ _ _ _ h=>by simp [Zz]at h,fun _ _ _ _ _ h=>by simp [ZE]at h⟩
 |f+1=>by
  have ih:=ndS f
  have tk:=HX f
  refine⟨?_,?_⟩
  ·intro s u a u' hu h
   simp only[Zz]at h
   obtain⟨_,u1,h1,h⟩:=bind_ok h
   have b1:=Qm (by decide) _ _ _ _ hu h1
   have:=Ti tk.s ih.s _ _ _ _ _ _ b1.at' h
   have:=b1.lt
   rw[Jz]at*;omega
  ·intro s u a u' hu h
   simp only[ZE]at h
   have key:∀{u x b u4},At s u→∀{u1 u2 u3},Qk [40] u=.ok () u1→QZ f u1=.ok x u2→Qk [41] u2=.ok () u3→Zz f u3=.ok b u4→Vg x+J8 Yy b+u4.length≤u.length∧At s u4:=by
    intro u x b u4 hu u1 u2 u3 h1 h2 h3 h4
    have b1:=Qm (by decide) _ _ _ _ hu h1
    have b2:=JM _ _ _ _ b1.at' h2
    have:=Oo _ _ _ _ b1.at' h2
    have b3:=Qm (by decide) _ _ _ _ b2.at' h3
    have b4:=tk.b _ _ _ _ b3.at' h4
    have:=ih.b _ _ _ _ b3.at' h4
    have:=b1.lt;have:=b3.lt
    exact⟨by omega,b4.at'⟩
   split at h
   ·rename_i hc
    have b0:=Beh.adv hu hc (by decide)
    have:=b0.lt
    obtain⟨_,u1,h1,h⟩:=bind_ok h
    obtain⟨x,u2,h2,h⟩:=bind_ok h
    obtain⟨_,u3,h3,h⟩:=bind_ok h
    obtain⟨b,u4,h4,h⟩:=bind_ok h
    obtain⟨k1,k2⟩:=key b0.at' h1 h2 h3 h4
    split at h
    ·rename_i hc
     have b5:=Beh.adv k2 hc (by decide)
     have:=b5.lt
     obtain⟨_,u5,h5,h⟩:=bind_ok h
     cases h
     have:=ih.b _ _ _ _ b5.at' h5
     simp only[Wp];omega
    ·cases h;simp only[Wp,Jz];omega
   ·split at h
    ·rename_i hc
     have b0:=Beh.adv hu hc (by decide)
     have:=b0.lt
     obtain⟨_,u1,h1,h⟩:=bind_ok h
     obtain⟨x,u2,h2,h⟩:=bind_ok h
     obtain⟨_,u3,h3,h⟩:=bind_ok h
     obtain⟨b,u4,h4,h⟩:=bind_ok h
     cases h
     obtain⟨k1,k2⟩:=key b0.at' h1 h2 h3 h4
     simp only[Wp,Jz];omega
    ·split at h
     ·rename_i hc
      have b0:=Beh.adv hu hc (by decide)
      have:=b0.lt
      obtain⟨_,u1,h1,h⟩:=bind_ok h
      obtain⟨_,u2,h2,h⟩:=bind_ok h
      cases h
      have b1:=JM _ _ _ _ b0.at' h1
      have:=Oo _ _ _ _ b0.at' h1
      have:=(Qm (by decide) _ _ _ _ b1.at' h2).lt
      simp only[Wp,Jz];omega
     ·split at h
      ·rename_i hc
       have b0:=Beh.adv hu hc (by decide)
       have:=b0.lt
       have:=PQ _ _ _ _ b0.at' h
       omega
      ·exact PQ _ _ _ _ hu h
def Hw (f:Func):Nat:=f.params.length+J8 Yy f.body
theorem RQ {f:Nat}:Wt Hw (V0 f):=fun s u a u' hu h=>by
 obtain⟨_,u1,h1,h⟩:=bind_ok h
 obtain⟨_,u2,h2,h⟩:=bind_ok h
 obtain⟨_,u3,h3,h⟩:=bind_ok h
 obtain⟨l,u4,h4,h⟩:=bind_ok h
 obtain⟨_,u5,h5,h⟩:=bind_ok h
 cases h
 have b1:=Qm (by decide) _ _ _ _ hu h1
 have b2:=QQ _ _ _ _ b1.at' h2
 have b3:=Qm (by decide) _ _ _ _ b2.at' h3
 have b4:=L8 QQ _ _ _ _ b3.at' h4
 have:=PS (w:=fun _=>1) QQ (fun s u a u' hu h=>by have:=(QQ _ _ _ _ hu h).lt;show 1+u'.length≤u.length;omega) _ _ _ _ b3.at' h4
 have hl:=HF (w:=fun _:Bs=>1) (fun _=>fG _) l
 have:=(ndS f).b _ _ _ _ b4.at' h5
 have:=b1.lt;have:=b2.lt;have:=b3.lt
 simp only[Hw];omega
end Go.Proofs.YtcbjbgaefighcaaGreatDoor
