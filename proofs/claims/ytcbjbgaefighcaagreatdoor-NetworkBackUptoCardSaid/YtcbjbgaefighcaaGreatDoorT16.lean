/- Part 16 of the proof. -/
import Derived.Test.YtcbjbgaefighcaaGreatDoorT0
import Derived.Test.YtcbjbgaefighcaaGreatDoorT13
import Derived.Test.YtcbjbgaefighcaaGreatDoorT15
set_option linter.all false
namespace Go.Proofs.YtcbjbgaefighcaaGreatDoor
open Go Go.Ax Go.Proofs
theorem F5 {α:Type}{l r:List α}{n:Nat}(h:l.length=n):(l++r).take n=l:=by subst h;simp
theorem DN {α:Type}{l r:List α}{n:Nat}(h:l.length=n):(n≤(l++r).length)=True:=by subst h;simp
def Q1:=And.intro Zp<|And.intro @F5<|And.intro @DN<|And.intro @Int.toNat_natCast<|@Int.natCast_nonneg
theorem Zg {α:Type}{enc:α→List AV}{sz:Nat}(h:∀a,(enc a).length=sz):∀(pre l:List α),((pre++l).flatMap enc).drop (pre.length*sz)=l.flatMap enc
 |[],l=>by simp
 |a::pre,l=>by
  have ih:=Zg h pre l
  have e:(a::pre).length*sz=(enc a).length+pre.length*sz:=by rw[h a,cE,Nat.succ_mul];omega
  rw[cF,dD,e,←lC,List.drop_left]
  exact ih
theorem Z7.wk {A A':Q3}(h:Z7 A A'):U2 A' A:=XC fun k=>(h k).elim (fun h=>.inl h.symm) fun h=>.inr ⟨h.1,h.2⟩
theorem Qb {A A':Q3}{v v':AV}(h:v=v')(hA:Z7 A A'):Vl (some v) (fun o A1=>o=.ret v'∧A1=A) A':=Qx h hA.wk
theorem Uh {A A':Q3}{v v':AV}(h:Wk v v')(hA:Z7 A A'):Vl (some v) (fun o A1=>o=.ret v'∧A1=A) A':=J0 h hA.wk ⟨rfl,rfl⟩
def Siz.cells (m:Siz):List AV:=[i64 m.nodes,i64 m.depth,bo m.wide]
theorem XI:∀(l:List Exp) (m:Siz),m.nodes≤(Zh m l).nodes
 |[],m=>by simp [Zh]
 |x::l,m=>by
  have:=XI l (m.inn (Z8 x))
  simp only[Zh]
  simp only[Siz.inn]at this⊢
  omega
mutual
theorem UE:∀x:Exp,1≤(Z8 x).nodes∧(Z8 x).depth≤(Z8 x).nodes
 | .mk k n i xs=>by
  simp only[Z8]
  have h1:=XJ xs ⟨1,1,decide (xs.length>4)⟩ (by simp)
  have h2:=XI xs ⟨1,1,decide (xs.length>4)⟩
  exact⟨h2,h1⟩
theorem XJ:∀(l:List Exp) (m:Siz),1≤m.nodes∧m.depth≤m.nodes→(Zh m l).depth≤(Zh m l).nodes
 |[],m,h=>by simpa[Zh]using h.2
 |x::l,m,h=>by
  simp only[Zh]
  have h1:=UE x
  refine XJ l _ ?_
  simp only[Siz.inn]
  omega
end
theorem KT (m:Siz)(a b:List Exp):Zh m (a++b)=Zh (Zh m a) b:=by
 induction a generalizing m with
 |nil=>simp [Zh]
 |cons x a ih=>simp only[cF,Zh,ih]
theorem Stmt.cells_take (x:Stmt):x.cells.take 8=x.cells:=dX (by rw[Stmt.cells_len];exact fG _)
theorem Vv:∀(l:List Stmt) (m:Siz),m.nodes≤(Z9 m l).nodes
 |[],m=>by simp [Z9]
 |x::l,m=>by
  have:=Vv l (m.inn (Jj x))
  simp only[Z9]
  simp only[Siz.inn]at this⊢
  omega
mutual
theorem Wl:∀x:Stmt,1≤(Jj x).nodes∧(Jj x).depth≤(Jj x).nodes
 | .mk k n v b e=>by
  simp only[Jj]
  have h0:=UE v
  have h1:=XH b (Siz.inn ⟨1,1,false⟩ (Z8 v)) (by simp only[Siz.inn];omega)
  have h2:=Vv b (Siz.inn ⟨1,1,false⟩ (Z8 v))
  have h3:=Vv e (Z9 (Siz.inn ⟨1,1,false⟩ (Z8 v)) b)
  have h4:1≤(Siz.inn ⟨1,1,false⟩ (Z8 v)).nodes:=by simp only[Siz.inn];omega
  exact⟨by omega,XH e _ ⟨by omega,h1⟩⟩
theorem XH:∀(l:List Stmt) (m:Siz),1≤m.nodes∧m.depth≤m.nodes→(Z9 m l).depth≤(Z9 m l).nodes
 |[],m,h=>by simpa[Z9]using h.2
 |x::l,m,h=>by
  simp only[Z9]
  have h1:=Wl x
  refine XH l _ ?_
  simp only[Siz.inn]
  omega
end
theorem Mj (m:Siz)(a b:List Stmt):Z9 m (a++b)=Z9 (Z9 m a) b:=by
 induction a generalizing m with
 |nil=>simp [Z9]
 |cons x a ih=>simp only[cF,Z9,ih]
section
variable (G:Nat→Option (List AV))
theorem GQ {A:Q3}{p:Nat}{m n:Siz}(hp:A p=some (.cells m.cells))(h1:m.nodes+n.nodes<2^62)(h2:m.depth<2^62)(h3:n.depth<2^61):
 Qu Tryz.prog G 242 [.ptr p 0,.agg n.cells] A ZK (A.upd p (some (.cells (m.inn n).cells))):=by
 refine Q4 l242 (fE rfl) ?_
 simp only[BI,Siz.cells,Q1,seval]
 intro b hb
 have hpb:=Q6 hp hb
 simp only[Siz.cells]at hp
 have e1:IntKind.i64.wrap ((m.nodes:Int)+(n.nodes:Int))=((m.nodes+n.nodes:Nat):Int):=by rw[Qg (by omega) (by omega)];rfl
 have e2:IntKind.i64.wrap (1+(n.depth:Int))=((1+n.depth:Nat):Int):=by rw[Qg (by omega) (by omega)];rfl
 have e3:(if(m.depth:Int)<((1+n.depth:Nat):Int)then((1+n.depth:Nat):Int)else(m.depth:Int))=((max m.depth (1+n.depth):Nat):Int):=by
  split <;> omega
 obtain⟨mn,md,mw⟩:=m
 obtain⟨nn,nd,nw⟩:=n
 simp only at hp e1 e2 e3
 cases mw with
 |true=>
  simp only[Q5 hpb,Q5 hpb.symm,hp,e1,e2,e3,QW,Q1,seval]
  exact Qx rfl (QK.wk (r:=p) (by repeat first|exact QK.refl _ _|refine QK.at ?_ _|refine QK.set ?_ (by assumption) (by simp)) (Q0 ..) (by simp))
 |false=>
  simp only[Q5 hpb,Q5 hpb.symm,hp,e1,e2,e3,QW,Q1,seval]
  exact Qx rfl (QK.wk (r:=p) (by repeat first|exact QK.refl _ _|refine QK.at ?_ _|refine QK.set ?_ (by assumption) (by simp)) (Q0 ..) (by simp))
theorem GR:∀(x:Exp) {A:Q3},(Z8 x).nodes<2^61→Qu Tryz.prog G 198 [Zw x] A (.agg (Z8 x).cells) A:=by
 intro x
 induction hn:SizeOf.sizeOf x using Nat.strongRecOn generalizing x with
 |_ sz ih=>
 intro A hb
 obtain⟨k,n,i,xs⟩:=x
 have hlen:xs.length≤(Z8 (.mk k n i xs)).nodes:=by
  have key:∀(l:List Exp) (m:Siz),m.nodes+l.length≤(Zh m l).nodes:=by
   intro l
   induction l with
   |nil=>intro m;simp [Zh]
   |cons y l ih=>
    intro m
    have:=ih (m.inn (Z8 y))
    have:=(UE y).1
    simp only[Zh,cE]
    simp only[Siz.inn]at*
    omega
  have:=key xs ⟨1,1,decide (xs.length>4)⟩
  simp only[Z8];omega
 refine Q4 l198 (fE rfl) ?_
 unfold Af
 refine Qd (fun env ds A'=>∃a b,env 1=.ptr a 0∧env 2=.ptr b 0∧ds=[]∧a≠b∧A a=none∧A b=none∧A' a=some (.cells (Exp.mk k n i xs).cells)∧A' b=some (.cells [i64 0,i64 0,bo false])∧Z7 A A') ?_ ?_
 ·simp only[Zw,Q1,seval]
  intro a ha b hb
  obtain⟨hba,hb0⟩:=Q9 hb
  exact⟨a,b,rfl,rfl,hba.symm,ha,hb0,by rw[Q5 hba.symm,Q0],Q0 ..,(by repeat(first|exact Z7.refl _|refine Z7.set ?_ (by assumption) (by simp [rk,JN,rd,Zz])))⟩
 rintro env ds A1 ⟨a,b,e1,e2,rfl,hab,ha,hb0',hA1,hB1,hO⟩
 refine Qd (fun env ds A'=>∃c,env 1=.ptr a 0∧env 2=.ptr b 0∧env 3=.ptr c 0∧ds=[]∧A c=none∧b≠c∧A' a=some (.cells (Exp.mk k n i xs).cells)∧A' b=some (.cells [i64 0,i64 0,bo false])∧A' c=some (.cells (Siz.cells ⟨1,1,decide (xs.length>4)⟩))∧Z7 A A') ?_ ?_
 ·simp only[Exp.cells]at hA1⊢
  simp only[e1,e2,hA1,Q1,seval]
  refine⟨fun h=> ?_,fun h=> ?_⟩
  all_goals
   intro c hc
   have hca:=Q6 hA1 hc
   have hcb:=Q6 hB1 hc
   have hc0:=hO.gone hc
   refine⟨c,rfl,hc0,hcb,by rw[Q5 hca,hA1],by rw[Q5 hcb,hB1],?_,Z7.set hO hc0 (by simp)⟩
   rw[Q0]
   simp only[Siz.cells]
   first|rw[fA (by omega)]|rw[fB (by omega)]
   rfl
 rintro env ds A2 ⟨c,e1,e2,e3,rfl,hc0,hbc,hA2,hB2,hC2,hO2⟩
 simp only[Exp.cells]at hA2
 simp only[e1,e2,e3,hA2,Q1,seval]
 have hb':(Zh ⟨1,1,decide (xs.length>4)⟩ xs).nodes<2^61:=by simpa only[Z8]using hb
 refine Qv (fun n env ds A'=>∃pre post:List Exp,xs=pre++post∧n=post.length∧env 2=.ptr b 0∧env 3=.ptr c 0∧env 12=.slice 4 xs.length (Exp.cellsL xs) none∧env 13=i64 xs.length∧env 14=i64 pre.length∧ds=[]∧
  A' b=some (.cells [i64 0,i64 0,bo false])∧A' c=some (.cells (Zh ⟨1,1,decide (xs.length>4)⟩ pre).cells)∧Z7 A A') xs.length ⟨[],xs,rfl,rfl,by simp [JH,e2],by simp [JH,e3],rfl,rfl,rfl,rfl,hB2,hC2,hO2⟩ ?_
 rintro n env ds A3 ⟨pre,post,hxs,rfl,e2,e3,e12,e13,e14,rfl,hB3,hC3,hO3⟩
 have hl:(pre.length:Int)+post.length=xs.length:=by rw[hxs];simp
 cases post with
 |nil=>
  have hnl:¬((pre.length:Int)<xs.length):=by simp at hl;omega
  simp only[e2,e3,e12,e13,e14,hnl,hB3,hC3,Siz.cells,Q1,seval]
  refine Qb ?_ (Z7.set hO3 hb0' (by simp))
  simp only[cN]at hxs
  simp only[Z8,hxs,Siz.cells]
 |cons y post=>
  have hll:((pre.length:Int)<xs.length):=by simp at hl;omega
  have hdr:(Exp.cellsL xs).drop (pre.length*4)=y.cells++Exp.cellsL post:=by
   rw[Exp.cellsL_eq,hxs,Zg Exp.cells_len,dD,Exp.cellsL_eq]
  simp only[e2,e3,e12,e13,e14,hll,hdr,Q1,seval]
  intro e he
  have hec:=Q6 hC3 he
  have heb:=Q6 hB3 he
  have he0:=hO3.gone he
  have hsz:Zh ⟨1,1,decide (xs.length>4)⟩ xs=Zh ((Zh ⟨1,1,decide (xs.length>4)⟩ pre).inn (Z8 y)) post:=by
   have key:∀m,Zh m xs=Zh ((Zh m pre).inn (Z8 y)) post:=fun m=>by rw[hxs,KT];rfl
   exact key _
  have hnod:=XI post ((Zh ⟨1,1,decide (xs.length>4)⟩ pre).inn (Z8 y))
  rw[←hsz]at hnod
  have Zf:=XJ pre ⟨1,1,decide (xs.length>4)⟩ (by simp)
  have hd2:=UE y
  have hpn:=XI pre ⟨1,1,decide (xs.length>4)⟩
  simp only[Siz.inn]at hnod
  have hsy:SizeOf.sizeOf y<sz:=by
   rw[←hn,hxs]
   have:SizeOf.sizeOf y<SizeOf.sizeOf (pre++y::post):=cY (by simp)
   simp only[Exp.mk.sizeOf_spec]
   omega
  refine Q2 (ih _ hsy y rfl (by omega)) ?_
  simp only[e2,e3,e12,e13,e14,Q1,seval]
  refine Q2 (GQ G (by rw[Q5 hec,hC3]) (by omega) (by omega) (by omega)) ?_
  simp only[e2,e3,e12,e13,e14,Q1,seval]
  rw[Qg (by simp at hl;omega) (by simp at hl;omega)]
  refine⟨post.length,by simp,pre++[y],post,by simp [hxs],rfl,by simp,?_,?_,Z7.set (Z7.set hO3 he0 (by simp)) hc0 (by simp)⟩
  ·rw[Q5 hbc,Q5 heb,hB3]
  ·rw[KT];rfl
theorem GS (m:Siz)(A:Q3):Qu Tryz.prog G 197 [.agg m.cells] A (bo m.small) A:=by
 refine Q4 l197 (fE rfl) ?_
 obtain⟨n,d,w⟩:=m
 simp only[Ag,Siz.cells,Q1,seval]
 intro a ha
 have e:Siz.small ⟨n,d,w⟩=(decide (n≤400)&&decide (d≤30)&& !w):=rfl
 rw[e]
 refine⟨fun h1=>⟨fun h2=> ?_,fun h2=> ?_⟩,fun h1=> ?_⟩
 ·refine Qb ?_ (by repeat(first|exact Z7.refl _|refine Z7.set ?_ (by assumption) (by simp [rk,JN,rd,Zz])))
  rw[fA (by omega),fA (by omega)];simp
 ·refine Qb ?_ (by repeat(first|exact Z7.refl _|refine Z7.set ?_ (by assumption) (by simp [rk,JN,rd,Zz])))
  rw[fB (show¬d≤30 by omega)];simp
 ·refine Qb ?_ (by repeat(first|exact Z7.refl _|refine Z7.set ?_ (by assumption) (by simp [rk,JN,rd,Zz])))
  rw[fB (show¬n≤400 by omega)];simp
theorem c196:∀(x:Stmt) {A:Q3},(Jj x).nodes<2^61→Qu Tryz.prog G 196 [T4 x] A (.agg (Jj x).cells) A:=by
 intro x
 induction hn:SizeOf.sizeOf x using Nat.strongRecOn generalizing x with
 |_ sz ih=>
 intro A hb
 obtain⟨k,n,v,bd,el⟩:=x
 obtain⟨vk,vn,vi,vs⟩:=v
 refine Q4 l196 (fE rfl) ?_
 simp only[Ah,T4,Stmt.cells,Exp.cells,Q1,seval]
 intro a ha b hb0 c hc
 obtain⟨hba,hb1'⟩:=Q9 hb0
 obtain⟨hcb,hc1⟩:=Q9 hc
 obtain⟨hca,hc2⟩:=Q9 hc1
 simp only[Q5 hba,Q5 hba.symm,Q5 hcb.symm,Q5 hca.symm,Q1,seval]
 have hv:=UE (.mk vk vn vi vs)
 have hS:Jj (.mk k n (.mk vk vn vi vs) bd el)=Z9 (Z9 (Siz.inn ⟨1,1,false⟩ (Z8 (.mk vk vn vi vs))) bd) el:=by simp only[Jj]
 have hn1:=Vv bd (Siz.inn ⟨1,1,false⟩ (Z8 (.mk vk vn vi vs)))
 have hn2:=Vv el (Z9 (Siz.inn ⟨1,1,false⟩ (Z8 (.mk vk vn vi vs))) bd)
 have hb2:=hb
 rw[hS]at hb2
 have hn0:(Siz.inn ⟨1,1,false⟩ (Z8 (.mk vk vn vi vs))).nodes=1+(Z8 (.mk vk vn vi vs)).nodes:=rfl
 refine Q2 (GR G (.mk vk vn vi vs) (by omega)) ?_
 simp only[Q1,seval]
 refine Q2 (GQ G (m:=⟨1,1,false⟩) (by exact Q0 ..) (by simp only;omega) (by simp only;omega) (by omega)) ?_
 generalize hm0:Siz.inn ⟨1,1,false⟩ (Z8 (.mk vk vn vi vs))=m0 at*
 have hm0d:1≤m0.nodes∧m0.depth≤m0.nodes:=by rw[←hm0];simp only[Siz.inn];omega
 simp only[Q5 hba,Q5 hba.symm,Q5 hcb.symm,Q5 hca.symm,Q1,seval]
 refine QY (cs:=[.slice 8 bd.length (Stmt.cellsL bd) none,.slice 8 el.length (Stmt.cellsL el) none]) rfl fun t ht=> ?_
 obtain⟨htc,ht⟩:=Q9 ht
 obtain⟨htb,ht⟩:=Q9 ht
 obtain⟨hta,ht⟩:=Q9 ht
 simp only[Q1,seval]
 have hO0:Z7 A ((((A.upd a (some (.cells (Stmt.mk k n (.mk vk vn vi vs) bd el).cells))).upd b (some (.cells [i64 0,i64 0,bo false]))).upd c (some (.cells m0.cells))).upd t (some .tip)):=(by repeat(first|exact Z7.refl _|refine Z7.set ?_ (by assumption) (by simp [rk,JN,rd,Zz])))
 have step:∀(l:List Stmt),l∈[bd,el]→∀(m:Siz),(1≤m.nodes∧m.depth≤m.nodes)→(Z9 m l).nodes<2^61→∀(y:Stmt),y∈l→SizeOf.sizeOf y<sz:=by
  intro l hl m _ _ y hy
  rw[←hn]
  have h1:SizeOf.sizeOf y<SizeOf.sizeOf l:=cY hy
  simp only[dT,dL,or_false]at hl
  simp only[Stmt.mk.sizeOf_spec]
  rcases hl with rfl|rfl <;> omega
 refine Qv (fun n env ds A'=>∃pre post:List (List Stmt),[bd,el]=pre++post∧n=post.length∧env 2=.ptr b 0∧env 3=.ptr c 0∧env 17=.slice 1 2 [.slice 8 bd.length (Stmt.cellsL bd) none,.slice 8 el.length (Stmt.cellsL el) none] (some t)∧env 18=i64 2∧env 19=i64 pre.length∧ds=[]∧
  A' b=some (.cells [i64 0,i64 0,bo false])∧A' c=some (.cells (pre.foldl Z9 m0).cells)∧Z7 A A') 2 ⟨[],[bd,el],rfl,rfl,rfl,rfl,rfl,rfl,rfl,rfl,?_,?_,hO0⟩ ?_
 ·rw[Q5 htb.symm,Q5 hcb.symm,Q0]
 ·rw[Q5 htc.symm,Q0];rfl
 rintro nn env ds A3 ⟨pre,post,hL,rfl,e2,e3,e17,e18,e19,rfl,hB3,hC3,hO3⟩
 have hl2:(pre.length:Int)+post.length=2:=by have:=congrArg List.length hL;simp at this;omega
 cases post with
 |nil=>
  have hnl:¬((pre.length:Int)<2):=by simp at hl2;omega
  simp only[e2,e3,e17,e18,e19,hnl,hB3,hC3,Siz.cells,Q1,seval]
  refine Qb ?_ (Z7.set hO3 hb1' (by simp))
  simp only[cN]at hL
  rw[hS,←hL];rfl
 |cons l post=>
  have hnl:((pre.length:Int)<2):=by simp at hl2;omega
  simp only[e2,e3,e17,e18,e19,hnl,Q1,seval]
  refine JY (v:=.slice 8 l.length (Stmt.cellsL l) none) ?_ ?_
  ·have:([.slice 8 bd.length (Stmt.cellsL bd) none,.slice 8 el.length (Stmt.cellsL el) none]:List AV)=(pre++l::post).map fun l=>.slice 8 l.length (Stmt.cellsL l) none:=by rw[←hL];rfl
   rw[this];simp
  have hlm:l∈[bd,el]:=by rw[hL];simp
  have hmon:∀(L:List (List Stmt)) (m:Siz),m.nodes≤(L.foldl Z9 m).nodes:=by
   intro L
   induction L with
   |nil=>intro m;exact fG _
   |cons x L ih=>intro m;exact fI (Vv x m) (ih _)
  have hdep:∀(L:List (List Stmt)) (m:Siz),(1≤m.nodes∧m.depth≤m.nodes)→1≤(L.foldl Z9 m).nodes∧(L.foldl Z9 m).depth≤(L.foldl Z9 m).nodes:=by
   intro L
   induction L with
   |nil=>intro m h;exact h
   |cons x L ih=>intro m h;exact ih _ ⟨fI h.1 (Vv x m),XH x m h⟩
  have hP:=hdep pre m0 hm0d
  have hfin:Z9 (Z9 m0 bd) el=post.foldl Z9 (Z9 (pre.foldl Z9 m0) l):=by
   have:Z9 (Z9 m0 bd) el=[bd,el].foldl Z9 m0:=rfl
   rw[this,hL,List.foldl_append];rfl
  have hle:=hmon post (Z9 (pre.foldl Z9 m0) l)
  rw[←hfin]at hle
  generalize hM:pre.foldl Z9 m0=M at*
  simp only[e2,e3,e17,e18,e19,Q1,seval]
  refine Qv (fun n env ds A'=>∃pre2 post2:List Stmt,l=pre2++post2∧n=post2.length∧env 2=.ptr b 0∧env 3=.ptr c 0∧env 17=.slice 1 2 [.slice 8 bd.length (Stmt.cellsL bd) none,.slice 8 el.length (Stmt.cellsL el) none] (some t)∧env 18=i64 2∧env 19=i64 pre.length∧
   env 23=.slice 8 l.length (Stmt.cellsL l) none∧env 24=i64 l.length∧env 25=i64 pre2.length∧ds=[]∧A' b=some (.cells [i64 0,i64 0,bo false])∧A' c=some (.cells (Z9 M pre2).cells)∧Z7 A A') l.length ⟨[],l,rfl,rfl,e2,e3,e17,e18,e19,rfl,rfl,rfl,rfl,hB3,hC3,hO3⟩ ?_
  rintro nn env ds A4 ⟨pre2,post2,hl',rfl,e2,e3,e17,e18,e19,e23,e24,e25,rfl,hB4,hC4,hO4⟩
  have hl3:(pre2.length:Int)+post2.length=l.length:=by rw[hl'];simp
  have hlb:l.length≤(Z9 M l).nodes:=by
   have key:∀(l:List Stmt) (m:Siz),m.nodes+l.length≤(Z9 m l).nodes:=by
    intro l
    induction l with
    |nil=>intro m;simp [Z9]
    |cons y l ih=>
     intro m
     have:=ih (m.inn (Jj y))
     have:=(Wl y).1
     simp only[Z9,cE]
     simp only[Siz.inn]at*
     omega
   have:=key l M
   omega
  cases post2 with
  |nil=>
   have hnl:¬((pre2.length:Int)<l.length):=by simp at hl3;omega
   simp only[e2,e3,e17,e18,e19,e23,e24,e25,hnl,Q1,seval]
   rw[Qg (by simp at hl2;omega) (by simp at hl2;omega)]
   refine⟨post.length,by simp,pre++[l],post,by simp [hL],rfl,by simp,hB4,?_,hO4⟩
   simp only[cN]at hl'
   rw[hC4,hl',List.foldl_append,hM];rfl
  |cons y post2=>
   have hnl:((pre2.length:Int)<l.length):=by simp at hl3;omega
   have hdr:(Stmt.cellsL l).drop (pre2.length*8)=y.cells++Stmt.cellsL post2:=by
    rw[Stmt.cellsL_eq,hl',Zg Stmt.cells_len,dD,Stmt.cellsL_eq]
   simp only[e2,e3,e17,e18,e19,e23,e24,e25,hnl,hdr,Stmt.cells_len,Stmt.cells_one,Stmt.cells_take,Q1,seval]
   intro e he
   have hec:=Q6 hC4 he
   have heb:=Q6 hB4 he
   have he0:=hO4.gone he
   have hy:y∈l:=by rw[hl'];simp
   have hsz:Z9 M l=Z9 ((Z9 M pre2).inn (Jj y)) post2:=by
    have key:∀m,Z9 m l=Z9 ((Z9 m pre2).inn (Jj y)) post2:=fun m=>by rw[hl',Mj];rfl
    exact key _
   have hnod:=Vv post2 ((Z9 M pre2).inn (Jj y))
   rw[←hsz]at hnod
   have Zf:=XH pre2 M hP
   have hd2:=Wl y
   simp only[Siz.inn]at hnod
   refine Q2 (ih _ (step l hlm M hP (by omega) y hy) y rfl (by omega)) ?_
   simp only[e2,e3,e17,e18,e19,e23,e24,e25,Q1,seval]
   refine Q2 (GQ G (by rw[Q5 hec,hC4]) (by omega) (by omega) (by omega)) ?_
   simp only[e2,e3,e17,e18,e19,e23,e24,e25,Q1,seval]
   rw[Qg (by simp at hl3;omega) (by simp at hl3;omega)]
   refine⟨post2.length,by simp,pre2++[y],post2,by simp [hl'],rfl,by simp,?_,?_,Z7.set (Z7.set hO4 he0 (by simp)) hc2 (by simp)⟩
   ·rw[Q5 hcb.symm,Q5 heb,hB4]
   ·rw[Mj];rfl
theorem I8:∀(l:List Stmt) (m:Siz),m.nodes≤(Zy m l).nodes
 |[],m=>fG _
 |x::l,m=>by
  have:=I8 l (m.bes (Jj x))
  simp only[Zy,List.foldl_cons]
  simp only[Zy,Siz.bes]at this⊢
  omega
theorem I9:∀(l:List Stmt) (m:Siz),m.depth≤m.nodes→(Zy m l).depth≤(Zy m l).nodes
 |[],m,h=>h
 |x::l,m,h=>by
  have h1:=Wl x
  refine I9 l (m.bes (Jj x)) ?_
  simp only[Siz.bes]
  omega
theorem Ho:∀(l:List Func) (m:Siz),m.nodes≤(J8 m l).nodes
 |[],m=>fG _
 |x::l,m=>fI (I8 x.body m) (Ho l _)
theorem Hp:∀(l:List Func) (m:Siz),m.depth≤m.nodes→(J8 m l).depth≤(J8 m l).nodes
 |[],m,h=>h
 |x::l,m,h=>Hp l _ (I9 x.body m h)
theorem Mg (m:Siz)(a b:List Func):J8 m (a++b)=J8 (J8 m a) b:=List.foldl_append
theorem Me (m:Siz)(a b:List Stmt):Zy m (a++b)=Zy (Zy m a) b:=List.foldl_append
theorem Func.cells_len (f:Func):f.cells.length=3:=by simp [Func.cells]
theorem Func.cells_one (f:Func):f.cells.all AV.one=true:=by simp [Func.cells,Ha,one_sl,Qy]
theorem Func.cells_take (f:Func):f.cells.take 3=f.cells:=by simp [Func.cells]
theorem Bg (l:List Func){A:Q3}(hb:(J8 ⟨0,0,false⟩ l).nodes<2^61)(hlen:l.length<2^61)(hbl:∀f∈l,f.params.length<2^61)(hbb:∀f∈l,f.body.length<2^61):
 Qu Tryz.prog G 138 [Qy 3 Func.cells l] A (bo (JZ l)) A:=by
 refine Q4 l138 (fE rfl) ?_
 simp only[AS,Qy,Q1,seval]
 intro p hp
 have hOp:Z7 A (A.upd p (some (.cells [i64 0,i64 0,bo false]))):=(by repeat(first|exact Z7.refl _|refine Z7.set ?_ (by assumption) (by simp [rk,JN,rd,Zz])))
 refine Qv (fun n env ds A'=>∃pre post:List Func,l=pre++post∧n=post.length∧env 0=.slice 3 l.length (l.flatMap Func.cells) none∧env 3=.ptr p 0∧env 9=.slice 3 l.length (l.flatMap Func.cells) none∧env 10=i64 l.length∧env 11=i64 pre.length∧ds=[]∧
  A' p=some (.cells (J8 ⟨0,0,false⟩ pre).cells)∧pre.all (fun f=>decide (f.params.length≤4))=true∧Z7 A A') l.length ⟨[],l,rfl,rfl,rfl,rfl,rfl,rfl,rfl,rfl,Q0 ..,rfl,hOp⟩ ?_
 rintro n env ds A1 ⟨pre,post,hl,rfl,e0,e3,e9,e10,e11,rfl,hP,hall,hO⟩
 have hl1:(pre.length:Int)+post.length=l.length:=by rw[hl];simp
 cases post with
 |nil=>
  have hnl:¬((pre.length:Int)<l.length):=by simp at hl1;omega
  simp only[cN]at hl
  rw[←hl]at hP hall
  simp only[e0,e3,e9,e10,e11,hnl,hP,Siz.cells,Q1,seval]
  refine Q2 (GS G (J8 ⟨0,0,false⟩ l) _) ?_
  cases hs:(J8 ⟨0,0,false⟩ l).small with
  |false=>
   simp only[Q1,seval]
   exact Qb (by simp only[JZ,hs,dF,dE]) hO
  |true=>
   simp only[e0,Q1,seval]
   refine⟨fun h=>Qb ?_ hO,fun h=>Qb ?_ hO⟩
   ·simp only[JZ,hs,hall,fA (show l.length≤8 by omega),dB]
   ·simp only[JZ,fB (show¬l.length≤8 by omega),dF]
 |cons f post=>
  have hnl:((pre.length:Int)<l.length):=by simp at hl1;omega
  have hdr:(l.flatMap Func.cells).drop (pre.length*3)=f.cells++post.flatMap Func.cells:=by
   rw[hl,Zg Func.cells_len,dD]
  have hf:f∈l:=by rw[hl];simp
  simp only[e0,e3,e9,e10,e11,hnl,hdr,Func.cells_len,Func.cells_one,Func.cells_take,Q1,seval]
  intro q hq
  have hqp:=Q6 hP hq
  have hq0:=hO.gone hq
  have hbad:¬f.params.length≤4→JZ l=false:=fun h=>by
   simp only[JZ,hl,fK,dU,fB h,dE,dF]
  have hgood:f.params.length≤4→(pre++[f]).all (fun f=>decide (f.params.length≤4))=true:=fun h=>by
   simp only[fK,hall,dU,fA h,lP,fX]
  simp only[Func.cells,Qy,Q1,seval]
  refine⟨fun h=> ?_,fun h=> ?_⟩
  ·exact Qb (by rw[hbad (by omega)]) (Z7.set hO hq0 (by simp))
  have hfe:J8 ⟨0,0,false⟩ l=J8 (Zy (J8 ⟨0,0,false⟩ pre) f.body) post:=by
   have key:∀m,J8 m l=J8 (Zy (J8 m pre) f.body) post:=fun m=>by rw[hl,Mg];rfl
   exact key _
  have hle:=Ho post (Zy (J8 ⟨0,0,false⟩ pre) f.body)
  rw[←hfe]at hle
  have hMd:=Hp pre ⟨0,0,false⟩ (fG _)
  generalize hM:J8 ⟨0,0,false⟩ pre=M at*
  have hblen:=hbb f hf
  refine Qv (fun n env ds A'=>∃pre2 post2:List Stmt,f.body=pre2++post2∧n=post2.length∧env 0=.slice 3 l.length (l.flatMap Func.cells) none∧env 3=.ptr p 0∧env 9=.slice 3 l.length (l.flatMap Func.cells) none∧env 10=i64 l.length∧env 11=i64 pre.length∧
   env 20=.slice 8 f.body.length (f.body.flatMap Stmt.cells) none∧env 21=i64 f.body.length∧env 22=i64 pre2.length∧ds=[]∧A' p=some (.cells (Zy M pre2).cells)∧Z7 A A') f.body.length
   ⟨[],f.body,rfl,rfl,e0,e3,e9,e10,e11,rfl,rfl,rfl,rfl,by rw[Q5 hqp,hP];rfl,Z7.set hO hq0 (by simp)⟩ ?_
  rintro n env ds A2 ⟨pre2,post2,hl',rfl,e0,e3,e9,e10,e11,e20,e21,e22,rfl,hP2,hO2⟩
  have hl2:(pre2.length:Int)+post2.length=f.body.length:=by rw[hl'];simp
  cases post2 with
  |nil=>
   have hnl2:¬((pre2.length:Int)<f.body.length):=by simp at hl2;omega
   simp only[e0,e3,e9,e10,e11,e20,e21,e22,hnl2,Q1,seval]
   rw[Qg (by omega) (by omega)]
   refine⟨post.length,by simp,pre++[f],post,by simp [hl],rfl,by simp,?_,hgood (by omega),hO2⟩
   simp only[cN]at hl'
   rw[hP2,Mg,hM,←hl'];rfl
  |cons y post2=>
   have hnl2:((pre2.length:Int)<f.body.length):=by simp at hl2;omega
   have hdr2:(f.body.flatMap Stmt.cells).drop (pre2.length*8)=y.cells++post2.flatMap Stmt.cells:=by
    rw[hl',Zg Stmt.cells_len,dD]
   simp only[e0,e3,e9,e10,e11,e20,e21,e22,hnl2,hdr2,Stmt.cells_len,Stmt.cells_one,Stmt.cells_take,Q1,seval]
   intro e he
   have hep:=Q6 hP2 he
   have he0:=hO2.gone he
   have hsz:Zy M f.body=Zy ((Zy M pre2).bes (Jj y)) post2:=by
    have key:∀m,Zy m f.body=Zy ((Zy m pre2).bes (Jj y)) post2:=fun m=>by rw[hl',Me];rfl
    exact key _
   have hnod:=I8 post2 ((Zy M pre2).bes (Jj y))
   rw[←hsz]at hnod
   have Zf:=I9 pre2 M hMd
   have hd2:=Wl y
   simp only[Siz.bes]at hnod
   refine Q2 (c196 G y (by omega)) ?_
   generalize hN:Zy M pre2=N at*
   generalize hY:Jj y=Y at*
   obtain⟨Nn,Nd,Nw⟩:=N
   obtain⟨Yn,Yd,Yw⟩:=Y
   simp only at hnod Zf hd2
   have w1:IntKind.i64.wrap ((Nn:Int)+(Yn:Int))=((Nn+Yn:Nat):Int):=by rw[Qg (by omega) (by omega)];rfl
   have w3:(if(Nd:Int)<(Yd:Int)then(Yd:Int)else(Nd:Int))=((max Nd Yd:Nat):Int):=by split <;> omega
   have w4:IntKind.i64.wrap ((pre2.length:Int)+1)=((pre2.length+1:Nat):Int):=by rw[Qg (by omega) (by omega)];rfl
   simp only[Siz.cells]at hP2
   simp only[e0,e3,e9,e10,e11,e20,e21,e22,Siz.cells,Q1,seval]
   intro g hg
   obtain⟨hge,hg⟩:=Q9 hg
   have hgp:=Q6 hP2 hg
   have hg0:=hO2.gone hg
   have hN':Zy M (pre2++[y])=Siz.bes ⟨Nn,Nd,Nw⟩ ⟨Yn,Yd,Yw⟩:=by rw[Me,hN,←hY];rfl
   cases Nw with
   |true=>
    simp only[e0,e3,e9,e10,e11,e20,e21,e22,Q5 hgp,Q5 hgp.symm,Q5 hep,hP2,w1,w3,w4,QW,Q1,seval]
    refine⟨post2.length,by simp,pre2++[y],post2,by simp [hl'],rfl,by simp,?_,?_⟩
    ·rw[hN'];rfl
    ·exact Z7.set (Z7.set (Z7.set hO2 he0 (by simp)) hg0 (by simp)) hp (by simp)
   |false=>
    simp only[e0,e3,e9,e10,e11,e20,e21,e22,Q5 hgp,Q5 hgp.symm,Q5 hep,hP2,w1,w3,w4,QW,Q1,seval]
    refine⟨post2.length,by simp,pre2++[y],post2,by simp [hl'],rfl,by simp,?_,?_⟩
    ·rw[hN'];rfl
    ·exact Z7.set (Z7.set (Z7.set hO2 he0 (by simp)) hg0 (by simp)) hp (by simp)
end
def Wt {α:Type}(w:α→Nat)(p:Bs→Res α):Prop:=∀s u a u',At s u→p u=.ok a u'→w a+u'.length≤u.length
def Jd {α:Type}(w:α→Nat)(l:List α):Nat:=(l.map w).sum
theorem HG {α:Type}{w:α→Nat}(l m:List α):Jd w (l++m)=Jd w l+Jd w m:=by simp [Jd]
theorem II {α:Type}{w:α→Nat}(a:α):Jd w [a]=w a:=by simp [Jd]
theorem JC {α:Type}{w:α→Nat}:Jd w []=0:=rfl
theorem JJ {α:Type}{w:α→Nat}(a:α)(l:List α):Jd w (a::l)=w a+Jd w l:=by simp [Jd]
theorem IJ {α:Type}{w:α→Nat}(h:∀a,1≤w a):∀l:List α,l.length≤Jd w l
 |[]=>fG _
 |a::l=>by have:=IJ h l;have:=h a;rw[JJ,cE];omega
theorem N5 {α:Type}{w:α→Nat}{sep:Bs}{one:Bs→Res α}(hs:sep≠[])(ht:Tk one)(h1:Wt w one):∀f l s u a u',At s u→J9 sep one f l u=.ok a u'→Jd w a+u'.length≤Jd w l+u.length
 |0,_,_,_,_,_,_,h=>by simp [J9]at h
 |f+1,l,s,u,a,u',hu,h=>by
  simp only[J9]at h
  split at h
  ·rename_i hc
   have b0:=Beh.adv hu hc hs
   obtain⟨y,u1,h2,h⟩:=bind_ok h
   have b1:=ht _ _ _ _ b0.at' h2
   have:=h1 _ _ _ _ b0.at' h2
   have:=N5 hs ht h1 f _ _ _ _ _ b1.at' h
   rw[HG,II]at this
   have:=b0.lt
   omega
  ·cases h;omega
theorem EI {α:Type}{w:α→Nat}{sep:Bs}{one:Bs→Res α}(hs:sep≠[])(ht:Tk one)(h1:Wt w one){f:Nat}:Wt (Jd w) (ZV sep one f):=fun s u a u' hu h=>by
 obtain⟨y,u1,h2,h⟩:=bind_ok h
 have b1:=ht _ _ _ _ hu h2
 have:=h1 _ _ _ _ hu h2
 have:=N5 hs ht h1 f _ _ _ _ _ b1.at' h
 rw[II]at this
 omega
theorem N6 {α:Type}{w:α→Nat}{one:Bs→Res α}(ht:Tk one)(h1:Wt w one){f:Nat}:Wt (Jd w) (Uf one f):=fun s u a u' hu h=>by
 unfold Uf at h
 split at h
 ·rename_i hc;cases h
  have:=(Beh.adv hu hc (by decide)).lt
  rw[JC];omega
 ·obtain⟨_,u1,h1',h⟩:=bind_ok h
  obtain⟨_,u2,h2,h⟩:=bind_ok h
  cases h
  have b1:=VU (by decide) ht _ _ _ _ hu h1'
  have:=EI (by decide) ht h1 _ _ _ _ hu h1'
  have:=(Qn (by decide) _ _ _ _ b1.at' h2).lt
  omega
theorem Tx {α:Type}{w:α→Nat}{one:Bs→Res α}(ht:Tk one)(h1:Wt w one):∀f l s u a u',At s u→ZE one f l u=.ok a u'→Jd w a+u'.length≤Jd w l+u.length
 |0,_,_,_,_,_,_,h=>by simp [ZE]at h
 |f+1,l,s,u,a,u',hu,h=>by
  simp only[ZE]at h
  split at h
  ·rename_i hc;cases h
   have:=(Beh.adv hu hc (by decide)).lt
   omega
  ·obtain⟨y,u1,h2,h⟩:=bind_ok h
   have b1:=ht _ _ _ _ hu h2
   have:=h1 _ _ _ _ hu h2
   have:=Tx ht h1 f _ _ _ _ _ b1.at' h
   rw[HG,II]at this
   omega
def YK (x:Exp):Nat:=(Z8 x).nodes
theorem Ml:∀(l:List Exp) (m:Siz),(Zh m l).nodes=m.nodes+Jd YK l
 |[],m=>rfl
 |x::l,m=>by
  simp only[Zh,Ml l,JJ,Siz.inn,YK];omega
theorem VZ (k:Int)(n:Bs)(i:Int)(l:List Exp):YK (.mk k n i l)=1+Jd YK l:=by
 simp only[YK,Z8,Ml]
structure NdE (f:Nat):Prop where
 e:Wt YK (Z0 f)
 r:∀n,Wt YK (JA f n)
 l:∀n x s u a u',At s u→ZU f n x u=.ok a u'→YK a+u'.length≤YK x+u.length
 u:Wt YK (Zv f)
 p:Wt YK (JX f)
theorem ndE:∀f,NdE f
 |0=>⟨fun _ _ _ _ _ h=>by simp [Z0]at h,fun _ _ _ _ _ _ h=>by simp [JA]at h,fun _ _ _ _ _ _ _ h=>by simp [ZU]at h,fun _ _ _ _ _ h=>by simp [Zv]at h,fun _ _ _ _ _ h=>by simp [JX]at h⟩
 |f+1=>by
  have ih:=ndE f
  have tk:=Hk f
  refine⟨?_,?_,?_,?_,?_⟩
  ·intro s u a u' hu h
   simp only[Z0]at h
   obtain⟨x,u1,h1,h⟩:=bind_ok h
   have b1:=tk.r _ _ _ _ _ hu h1
   have w1:=ih.r _ _ _ _ _ hu h1
   split at h
   ·rename_i hc
    obtain⟨y,u2,h2,h⟩:=bind_ok h
    obtain⟨_,u3,h3,h⟩:=bind_ok h
    obtain⟨z,u4,h4,h⟩:=bind_ok h
    cases h
    have b2:=Beh.adv b1.at' hc (by decide)
    have b3:=tk.e _ _ _ _ b2.at' h2
    have w3:=ih.e _ _ _ _ b2.at' h2
    have b4:=Qn (by decide) _ _ _ _ b3.at' h3
    have w5:=ih.e _ _ _ _ b4.at' h4
    have:=b2.lt;have:=b4.lt
    simp only[VZ,JJ,JC];omega
   ·cases h;exact w1
  ·intro n s u a u' hu h
   simp only[JA]at h
   split at h
   ·exact ih.u _ _ _ _ hu h
   ·obtain⟨x,u1,h1,h⟩:=bind_ok h
    have b1:=tk.r _ _ _ _ _ hu h1
    have:=ih.r _ _ _ _ _ hu h1
    have:=ih.l _ _ _ _ _ _ b1.at' h
    omega
  ·intro n x s u a u' hu h
   simp only[ZU]at h
   split at h
   ·cases h;exact fG _
   ·rename_i k hk
    have b0:=Beh.adv hu rfl (KX hk)
    obtain⟨y,u1,h1,h⟩:=bind_ok h
    have b1:=tk.r _ _ _ _ _ b0.at' h1
    have:=ih.r _ _ _ _ _ b0.at' h1
    have:=b0.lt
    split at h
    ·cases h;simp only[VZ,JJ,JC];omega
    ·have:=ih.l _ _ _ _ _ _ b1.at' h
     simp only[VZ,JJ,JC]at this;omega
  ·intro s u a u' hu h
   simp only[Zv]at h
   split at h
   ·rename_i hc
    have b0:=Beh.adv hu hc (by decide)
    obtain⟨y,u1,h1,h⟩:=bind_ok h
    cases h
    have:=ih.u _ _ _ _ b0.at' h1
    have:=b0.lt
    simp only[VZ,JJ,JC];omega
   ·split at h
    ·rename_i hc
     have b0:=Beh.adv hu hc (by decide)
     have:=b0.lt
     split at h
     ·obtain⟨y,u1,h1,h⟩:=bind_ok h
      cases h
      have:=(Kv _ _ _ _ b0.at' h1).lt
      simp only[VZ,JC];omega
     ·obtain⟨y,u1,h1,h⟩:=bind_ok h
      cases h
      have:=ih.u _ _ _ _ b0.at' h1
      simp only[VZ,JJ,JC];omega
    ·exact ih.p _ _ _ _ hu h
  ·intro s u a u' hu h
   simp only[JX]at h
   split at h
   ·obtain⟨y,u1,h1,h⟩:=bind_ok h
    cases h
    have:=(Kv _ _ _ _ hu h1).lt
    simp only[VZ,JC];omega
   ·split at h
    ·rename_i hc
     have b0:=Beh.adv hu hc (by decide)
     obtain⟨y,u1,h1,h⟩:=bind_ok h
     obtain⟨_,u2,h2,h⟩:=bind_ok h
     cases h
     have b1:=tk.e _ _ _ _ b0.at' h1
     have:=ih.e _ _ _ _ b0.at' h1
     have:=(Qn (by decide) _ _ _ _ b1.at' h2).lt
     have:=b0.lt
     omega
    ·obtain⟨y,u1,h1,h⟩:=bind_ok h
     have b1:=QM _ _ _ _ hu h1
     have:=b1.lt
     split at h
     ·rename_i hc
      have b2:=Beh.adv b1.at' hc (by decide)
      have:=b2.lt
      obtain⟨l,u2,h2,h⟩:=bind_ok h
      cases h
      have:=N6 tk.e ih.e _ _ _ _ b2.at' h2
      simp only[VZ];omega
     ·cases h;simp only[VZ,JC];omega
theorem On {f:Nat}:Wt YK (Z0 f):=(ndE f).e
def YE (x:Stmt):Nat:=(Jj x).nodes
theorem Mi:∀(l:List Stmt) (m:Siz),(Z9 m l).nodes=m.nodes+Jd YE l
 |[],m=>rfl
 |x::l,m=>by
  simp only[Z9,Mi l,JJ,Siz.inn,YE];omega
theorem Ww (k:Int)(n:Bs)(v:Exp)(b e:List Stmt):YE (.mk k n v b e)=1+YK v+Jd YE b+Jd YE e:=by
 simp only[YE,Jj,Mi];rfl
theorem FX (x:Stmt):1≤YE x:=by
 obtain⟨k,n,v,b,e⟩:=x
 rw[Ww];omega
structure NdS (f:Nat):Prop where
 b:Wt (Jd YE) (ZF f)
 s:Wt YE (ZL f)
theorem N4 {f:Nat}{k:Int}:Wt YE fun u=>(Za u).bind fun n u1=>(Ql [61] u1).bind fun _ u2=>(Z0 f u2).bind fun x u3=>(Ql [59] u3).bind fun _ u4=>.ok (Stmt.mk k n x [] []) u4:=fun s u a u' hu h=>by
 obtain⟨_,u1,h1,h⟩:=bind_ok h
 obtain⟨_,u2,h2,h⟩:=bind_ok h
 obtain⟨_,u3,h3,h⟩:=bind_ok h
 obtain⟨_,u4,h4,h⟩:=bind_ok h
 cases h
 have b1:=QM _ _ _ _ hu h1
 have b2:=Qn (by decide) _ _ _ _ b1.at' h2
 have b3:=JS _ _ _ _ b2.at' h3
 have:=On _ _ _ _ b2.at' h3
 have b4:=Qn (by decide) _ _ _ _ b3.at' h4
 have:=b1.lt;have:=b2.lt;have:=b4.lt
 simp only[Ww,JC];omega
theorem ndS:∀f,NdS f
 |0=>⟨fun _ _ _ _ _ h=>by simp [ZF]at h,fun _ _ _ _ _ h=>by simp [ZL]at h⟩
 |f+1=>by
  have ih:=ndS f
  have tk:=HW f
  refine⟨?_,?_⟩
  ·intro s u a u' hu h
   simp only[ZF]at h
   obtain⟨_,u1,h1,h⟩:=bind_ok h
   have b1:=Qn (by decide) _ _ _ _ hu h1
   have:=Tx tk.s ih.s _ _ _ _ _ _ b1.at' h
   have:=b1.lt
   rw[JC]at*;omega
  ·intro s u a u' hu h
   simp only[ZL]at h
   have key:∀{u x b u4},At s u→∀{u1 u2 u3},Ql [40] u=.ok () u1→Z0 f u1=.ok x u2→Ql [41] u2=.ok () u3→ZF f u3=.ok b u4→YK x+Jd YE b+u4.length≤u.length∧At s u4:=by
    intro u x b u4 hu u1 u2 u3 h1 h2 h3 h4
    have b1:=Qn (by decide) _ _ _ _ hu h1
    have b2:=JS _ _ _ _ b1.at' h2
    have:=On _ _ _ _ b1.at' h2
    have b3:=Qn (by decide) _ _ _ _ b2.at' h3
    have b4:=tk.b _ _ _ _ b3.at' h4
    have:=ih.b _ _ _ _ b3.at' h4
    have:=b1.lt;have:=b3.lt
    exact⟨by omega,b4.at'⟩
   split at h
   ·rename_i hc
    have b0:=Beh.adv hu hc (by decide)
    have:=b0.lt
    obtain⟨_,u1,h1,h⟩:=bind_ok h
    obtain⟨x,u2,h2,h⟩:=bind_ok h
    obtain⟨_,u3,h3,h⟩:=bind_ok h
    obtain⟨b,u4,h4,h⟩:=bind_ok h
    obtain⟨k1,k2⟩:=key b0.at' h1 h2 h3 h4
    split at h
    ·rename_i hc
     have b5:=Beh.adv k2 hc (by decide)
     have:=b5.lt
     obtain⟨_,u5,h5,h⟩:=bind_ok h
     cases h
     have:=ih.b _ _ _ _ b5.at' h5
     simp only[Ww];omega
    ·cases h;simp only[Ww,JC];omega
   ·split at h
    ·rename_i hc
     have b0:=Beh.adv hu hc (by decide)
     have:=b0.lt
     obtain⟨_,u1,h1,h⟩:=bind_ok h
     obtain⟨x,u2,h2,h⟩:=bind_ok h
     obtain⟨_,u3,h3,h⟩:=bind_ok h
     obtain⟨b,u4,h4,h⟩:=bind_ok h
     cases h
     obtain⟨k1,k2⟩:=key b0.at' h1 h2 h3 h4
     simp only[Ww,JC];omega
    ·split at h
     ·rename_i hc
      have b0:=Beh.adv hu hc (by decide)
      have:=b0.lt
      obtain⟨_,u1,h1,h⟩:=bind_ok h
      obtain⟨_,u2,h2,h⟩:=bind_ok h
      cases h
      have b1:=JS _ _ _ _ b0.at' h1
      have:=On _ _ _ _ b0.at' h1
      have:=(Qn (by decide) _ _ _ _ b1.at' h2).lt
      simp only[Ww,JC];omega
     ·split at h
      ·rename_i hc
       have b0:=Beh.adv hu hc (by decide)
       have:=b0.lt
       have:=N4 _ _ _ _ b0.at' h
       omega
      ·exact N4 _ _ _ _ hu h
def Hx (f:Func):Nat:=f.params.length+Jd YE f.body
theorem Sd {f:Nat}:Wt Hx (V4 f):=fun s u a u' hu h=>by
 obtain⟨_,u1,h1,h⟩:=bind_ok h
 obtain⟨_,u2,h2,h⟩:=bind_ok h
 obtain⟨_,u3,h3,h⟩:=bind_ok h
 obtain⟨l,u4,h4,h⟩:=bind_ok h
 obtain⟨_,u5,h5,h⟩:=bind_ok h
 cases h
 have b1:=Qn (by decide) _ _ _ _ hu h1
 have b2:=QM _ _ _ _ b1.at' h2
 have b3:=Qn (by decide) _ _ _ _ b2.at' h3
 have b4:=L7 QM _ _ _ _ b3.at' h4
 have:=N6 (w:=fun _=>1) QM (fun s u a u' hu h=>by have:=(QM _ _ _ _ hu h).lt;show 1+u'.length≤u.length;omega) _ _ _ _ b3.at' h4
 have hl:=IJ (w:=fun _:Bs=>1) (fun _=>fG _) l
 have:=(ndS f).b _ _ _ _ b4.at' h5
 have:=b1.lt;have:=b2.lt;have:=b3.lt
 simp only[Hx];omega
end Go.Proofs.YtcbjbgaefighcaaGreatDoor
