/- Part 30 of the proof. -/
import Derived.Test.YtcbjbgaefighcaaGreatDoorT0
import Derived.Test.YtcbjbgaefighcaaGreatDoorT29
set_option linter.all false
namespace Go.Proofs.YtcbjbgaefighcaaGreatDoor
open Go Go.Ax Go.Proofs
def CJ (sz t:Nat)(z:List Value):LC:=
 .seq (.ops [⟨some 6,.mv (.const (.string ⟨#[]⟩)),none⟩])<|
 .seq (.ops [⟨some 7,.mv (.const (.slice none 0 0)),none⟩])<|
 .seq (.seq (.ops [⟨some 10,.mv (.tmp 0),none⟩,
  ⟨some 11,.lenOf .slice (.tmp 10),none⟩,
  ⟨some 12,.mv (.const (.int .i64 0)),none⟩])<|
 .block 0<|.loop<|.seq (.ops [⟨some 13,.bin .lss .num (.tmp 12) (.tmp 11),none⟩])<|
  .seq (.cond (.tmp 13) (.skip)<|
   .exit 0)<|
  .seq (.block 1<|.seq (.ops [⟨some 14,.idxS sz (.tmp 10) (.tmp 12),none⟩,
   ⟨some 15,.load sz true (.tmp 14),none⟩,
   ⟨some 9,.alloc t z,none⟩,
   ⟨none,.store sz (.tmp 9) (.tmp 15),none⟩])<|
   .ops [⟨some 16,.mv (.tmp 7),none⟩,
    ⟨some 17,.mv (.tmp 2),none⟩,
    ⟨some 18,.load sz true (.tmp 9),none⟩,
    ⟨some 19,.call (.tmp 17) [.tmp 18],none⟩,
    ⟨some 20,.bslice 9 1 1 [.string ⟨#[]⟩] [(0,.tmp 19)],none⟩,
    ⟨some 21,.app 9 1 16 (.tmp 16) (.tmp 20),none⟩,
    ⟨some 7,.mv (.tmp 21),none⟩])<|
  .ops [⟨some 22,.bin .add .num (.tmp 12) (.const (.int .i64 1)),none⟩,
   ⟨some 12,.mv (.tmp 22),none⟩])<|
 .seq (.ops [⟨some 23,.mv (.tmp 7),none⟩,
  ⟨some 24,.mv (.tmp 1),none⟩,
  ⟨some 25,.call (.func 42) [.tmp 23,.tmp 24],none⟩,
  ⟨some 6,.mv (.tmp 25),none⟩])<|
 .ret
theorem NE {A B:Q3}:Tips A [] [none] B:={
 tip:=fun i t h=>by
  match i,h with
  |0,h=>cases h
 inj:=fun i j t h=>by
  match i,h with
  |0,h=>cases h}
section
variable (G:Nat→Option (List AV))
theorem kJ {α:Type}{A:Q3}{f sz t:Nat}{z:List Value}(hl:Q8 Tryz.prog f=some ⟨26,false,[.tmp 6],CJ sz t z⟩)(ht:(@BEq.beq Nat _ t 102)=false){xs:List α}{enc:α→List AV}(hsz:∀x,(enc x).length=sz)(hone:∀x,(enc x).all AV.one=true)(hz:z.length=sz){tx:α→Bs}{fn:FuncId}{n:Nat}{cs:List AV}{t1:Option Nat}(hn:n=xs.length)(hcs:cs=xs.flatMap enc){sep:Bs}(hlen:xs.length≤1000000)
 (hj:(Lib.join (xs.map tx) sep).length≤140737488355328)(hp:∀x∈xs,∀A,Qu Tryz.prog G fn [.agg (enc x)] A (.str (tx x)) A):
 Qu Tryz.prog G f [.slice sz n cs t1,.str sep,.func (.func fn) [] []] A (.str (Lib.join (xs.map tx) sep)) A:=by
 subst hn hcs
 refine Q4 hl (fE rfl) ?_
 simp only[CJ,Q1,seval]
 refine Qv (fun k env ds B=>∃pre post v τ,xs=pre++post∧k=post.length∧env 1=.str sep∧env 2=.func (.func fn) [] []∧env 7=v∧env 10=.slice sz xs.length (xs.flatMap enc) t1∧env 11=i64 xs.length∧env 12=i64 pre.length∧ds=[]∧Z7 A B∧Ie 1 Zl (pre.map tx) v τ∧Tips A [] [τ] B) xs.length
  ⟨[],xs,_,none,rfl,rfl,rfl,rfl,rfl,rfl,rfl,rfl,rfl,.refl _,.inl ⟨rfl,rfl,rfl⟩,NE⟩ ?_
 rintro k env ds B ⟨pre,post,v,τ,hpp,rfl,e1,e2,e7,e10,e11,e12,rfl,hO,hv,hT⟩
 have hl2:(pre.length:Int)+post.length=xs.length:=by rw[hpp];simp
 cases post with
 |nil=>
  have hlt:¬((pre.length:Int)<xs.length):=by simp at hl2;omega
  have hpl:xs=pre:=by rw[hpp];simp
  rw[←hpl]at hv
  simp only[e1,e2,e7,e10,e11,e12,Q1,seval]
  refine⟨fun h=>absurd h hlt,fun _=> ?_⟩
  have h42:Qu Tryz.prog G 42 [v,.str sep] B (.str (Lib.join (xs.map tx) sep)) B:=Qt.wk (.cons hv.wk (.cons (Wk.refl _) .nil)) (f42 G (xs.map tx) sep rfl rfl B (by simp;omega) hj)
  refine Q2 h42 ?_
  simp only[Q1,seval]
  exact Qb rfl hO
 |cons x post=>
  have hlt:((pre.length:Int)<xs.length):=by simp at hl2;omega
  have e3:IntKind.i64.wrap ((pre.length:Int)+1)=((pre++[x]).length:Nat):=by rw[Qg (by omega) (by omega)];simp
  have hd:(xs.flatMap enc).drop (pre.length*sz)=enc x++post.flatMap enc:=by rw[hpp,Zg hsz];simp
  simp only[e1,e2,e7,e10,e11,e12,ht,Q1,seval]
  refine⟨fun _=>⟨hlt,?_⟩,fun h=>absurd hlt h⟩
  rw[hd,dM (hsz x)]
  refine⟨by simp [hsz],fun q hq=> ?_⟩
  rw[H7 (hsz x) (LU hz) (hone x),QZ]
  have t2':(enc x).take sz=enc x:=dX (by rw[hsz];exact fG _)
  have hO:=hO.set (hO.gone hq) (o:=some (.cells (enc x))) (by simp)
  have hT:=hT.new (some (.cells (enc x))) hq
  simp only[e1,e2,e7,e10,e11,e12,hsz,t2',Q1,seval]
  refine Q2 (hp x (by rw[hpp];simp) _) ?_
  generalize B.upd q (some (.cells (enc x)))=B at*
  simp only[Q1,seval]
  refine QY (cs:=[.str (tx x)]) (Jf _ _ rfl (by decide)) fun t2 ht2=> ?_
  simp only[e7,ZB,Q1,seval]
  refine KG (enc:=Zl) (y:=tx x) (i:=0) hv (hT.new (some .tip) ht2) rfl (hO.set (hO.gone ht2) (by simp)) (by simp) (by simp;simp at hl2;omega) rfl fun v' τ' B' q1 q2 q3 q4=> ?_
  simp only[e1,e2,e10,e11,e12,e3,Q1,seval]
  exact⟨post.length,by simp,pre++[x],post,v',τ',by simp [hpp],rfl,rfl,rfl,q3,by simpa using q1,q2⟩
theorem M4 (hG:Gl G)(n:Int)(A:Q3)(hn:ZJ n=true):Qu Tryz.prog G 43 [i64 n] A (.str (Lib.itoa n)) A:=by
 simp only[ZJ,dZ]at hn
 refine Q4 l43 (fE rfl) ?_
 simp only[C43,Q1,seval]
 refine Q2 (B7 hG n _ (by omega) (by omega)) ?_
 simp only[Q1,seval]
 exact Qb rfl (.refl _)
end
theorem Ka:∀(k u:Nat),u<10^(k+1)→(Lib.decDigits u).length≤k+1
 |0,u,h=>by
  rw[Lib.decDigits,dif_pos (by simpa using h)];simp
 |k+1,u,h=>by
  rw[Lib.decDigits]
  split
  ·simp
  ·have:=Ka k (u / 10) (by rw[Nat.pow_succ]at h;omega)
   simp only[cC,cQ];omega
theorem JU {n:Int}(h:ZJ n=true):(Lib.itoa n).length≤11:=by
 simp only[ZJ,dZ]at h
 unfold Lib.itoa
 split
 ·have:=Ka 9 n.natAbs (by omega)
  simp only[cE];omega
 ·have:=Ka 9 n.toNat (by omega)
  omega
section
variable (G:Nat→Option (List AV))
theorem l185:Q8 Tryz.prog 185=some ⟨26,false,[.tmp 6],CJ 4 179 [.string ⟨#[]⟩,.bool false,.bool false,.int .i64 0]⟩:=by kernel_rfl
theorem l117:Q8 Tryz.prog 117=some ⟨26,false,[.tmp 6],CJ 5 56 [.string ⟨#[]⟩,.int .i64 0,.string ⟨#[]⟩,.int .i64 0,.slice none 0 0]⟩:=by kernel_rfl
theorem l120:Q8 Tryz.prog 120=some ⟨26,false,[.tmp 6],CJ 2 163 [.string ⟨#[]⟩,.int .i64 0]⟩:=by kernel_rfl
theorem l45:Q8 Tryz.prog 45=some ⟨26,false,[.tmp 6],CJ 4 97 [.string ⟨#[]⟩,.int .i64 0,.slice none 0 0,.int .i64 0]⟩:=by kernel_rfl
theorem l47:Q8 Tryz.prog 47=some ⟨26,false,[.tmp 6],CJ 13 53 [.string ⟨#[]⟩,.string ⟨#[]⟩,.slice none 0 0,.int .i64 0,.string ⟨#[]⟩,.int .i64 0,.slice none 0 0,.string ⟨#[]⟩,.bool false,.slice none 0 0,.slice none 0 0,.int .i64 0,.int .i64 0]⟩:=by kernel_rfl
theorem k186 (hG:Gl G)(t:Test)(A:Q3)(h:Vp t=true):Qu Tryz.prog G 186 [.agg t.cells] A (.str (XW t)) A:=by
 obtain⟨cl,lo,st,c⟩:=t
 simp only[Vp,cD]at h
 have h1:=Qz h.1
 have h2:=JU h.2
 have htx:XW ⟨cl,lo,st,c⟩=cl++[32]++((if lo then[62]else[60])++(if st then[]else[61]))++[32]++Lib.itoa c:=rfl
 rw[htx]
 refine Q4 l186 (fE rfl) ?_
 cases lo <;> cases st
 all_goals
  simp only[Ar,Test.cells,Q1,seval]
  intro d hd
  refine QV (QB (by simp;omega)) ?_
  simp only[Q1,seval]
  refine QV (QB (by simp;omega)) ?_
  simp only[Q1,seval]
  refine QV (QB (by simp;omega)) ?_
  simp only[Q1,seval]
  refine Q2 (M4 G hG c _ h.2) ?_
  simp only[QW,Q1,seval]
  refine QV (QB (by simp;omega)) ?_
  simp only[Q1,seval]
  exact Qb (by simp) ((Z7.refl A).set hd (by simp))
theorem CX (hG:Gl G)(l:List Test)(A:Q3){t:Option Nat}(h:l.all Vp=true)(hlen:l.length≤1000)(hl:(Yq l).length≤140737488355328):Qu Tryz.prog G 109 [.slice 4 l.length (l.flatMap Test.cells) t] A (.str (Yq l)) A:=by
 refine Q4 l109 (fE rfl) ?_
 simp only[qP,Q1,seval]
 refine Q2 (kJ G l185 rfl (enc:=Test.cells) (tx:=XW) (fun _=>rfl) (fun _=>rfl) rfl rfl rfl (by omega) hl fun x hx A=>k186 G hG x A (cH.1 h x hx)) ?_
 simp only[Q1,seval]
 exact Qb rfl (.refl _)
theorem k121 (hG:Gl G)(x:Clear)(A:Q3)(h:(Qe x.clock&&ZJ x.tv)=true):Qu Tryz.prog G 121 [.agg x.cells] A (.str (Uc x)) A:=by
 obtain⟨cl,c⟩:=x
 simp only[cD]at h
 have h1:=Qz h.1
 have h2:=JU h.2
 have htx:Uc ⟨cl,c⟩=cl++[32,61,32]++Lib.itoa c:=rfl
 rw[htx]
 refine Q4 l121 (fE rfl) ?_
 simp only[qG,Clear.cells,Q1,seval]
 intro d hd
 refine QV (QB (by simp;omega)) ?_
 simp only[Q1,seval]
 refine Q2 (M4 G hG c _ h.2) ?_
 simp only[QW,Q1,seval]
 refine QV (QB (by simp;omega)) ?_
 simp only[Q1,seval]
 exact Qb (by simp) ((Z7.refl A).set hd (by simp))
theorem k118 (hG:Gl G)(x:Assign)(A:Q3)(h:(Qe x.name&&ZC x.val)=true)(hs:Zm x.val=true)(hk:Hl x.val)(hl:(Qh x.val).length≤140737488355328):Qu Tryz.prog G 118 [.agg x.cells] A (.str (VR x)) A:=by
 obtain⟨n,v⟩:=x
 simp only[cD]at h
 have h1:=Qz h.1
 have htx:VR ⟨n,v⟩=n++[32,61,32]++Qh v:=rfl
 rw[htx]
 simp only at hs hk hl
 have h114:=fun A=>CV G hG v (A:=A) h.2 hs hk.1 hk.2 hl
 obtain⟨k,m,i,xs⟩:=v
 have hexp:Zw (.mk k m i xs)=.agg [i64 k,.str m,i64 i,.slice 4 xs.length (Exp.cellsL xs) none]:=rfl
 refine Q4 l118 (fE rfl) ?_
 simp only[qI,Assign.cells,Exp.cells,Q1,seval]
 intro d hd
 refine QV (QB (by simp;omega)) ?_
 simp only[Q1,seval]
 rw[←hexp]
 refine Q2 (h114 _) ?_
 simp only[QW,Q1,seval]
 refine QV (QB (by simp;omega)) ?_
 simp only[Q1,seval]
 exact Qb (by simp) ((Z7.refl A).set hd (by simp))
theorem Wb {A:Q3}{q d:Nat}{s w t:Bs}{is:Bool}{fn:FuncId}(hq:A q=some (.cells [.str s]))(hf:is=true→Qu Tryz.prog G fn [.ptr d 0] A (.str t) A)(hl:is=true→s.length+w.length+t.length≤9223372036854775800):
 Qu Tryz.prog G 110 [bo is,.str w,.func (.func fn) [] [.ptr d 0],.ptr q 0] A ZK (A.upd q (some (.cells [.str (s++QO is w t)]))):=by
 refine Q4 l110 (fE rfl) ?_
 cases is with
 |false=>
  simp only[F0,QQ,Q1,seval]
  exact Qx rfl (X4 (by rw[show s++QO false w t=s by simp [QO],←hq,YP rfl]))
 |true=>
  have hl:=hl rfl
  simp only[F0,hq,Q1,seval]
  refine QV (QB (by simp;omega)) ?_
  simp only[Q1,seval]
  refine QV (QB (by simp;omega)) ?_
  simp only[Q1,seval]
  refine Q2 (hf rfl) ?_
  simp only[hq,QW,Q1,seval]
  refine QV (QB (by simp;omega)) ?_
  simp only[Q1,seval]
  refine QV (QB (by simp;omega)) ?_
  simp only[hq,QW,QQ,Q1,seval]
  exact Qx rfl (X4 (by simp [QO]))
end
theorem XD {l:Nat}{k:Int}{t:Bs}:(Zr l k t).length≤t.length+2:=by
 unfold Zr;split <;> simp
theorem Hs {sep:Bs}:∀l:List Bs,(Lib.joinTail sep l).length=(l.map fun t=>t.length+sep.length).sum
 |[]=>rfl
 |a::l=>by
  have:=Hs (sep:=sep) l
  simp only[Lib.joinTail,cJ,List.flatten_cons,cC,List.sum_cons]at this⊢
  omega
theorem WD {sep:Bs}{l:List Bs}:(Lib.join l sep).length≤(l.map fun t=>t.length+sep.length).sum:=by
 cases l with
 |nil=>simp [Lib.join_nil]
 |cons a l=>
  rw[Lib.join_cons,cC,Hs]
  simp only[cJ,List.sum_cons];omega
theorem VG {α:Type}{f g:α→Nat}:∀{l:List α},(∀x∈l,f x≤g x)→(l.map f).sum≤(l.map g).sum
 |[],_=>fG _
 |a::l,h=>by
  have h1:=h a (dO ..)
  have h2:=VG fun x hx=>h x (dI a hx)
  simp only[cJ,List.sum_cons];omega
theorem YY {α:Type}{c:Nat}:∀l:List α,(l.map fun _=>c).sum=l.length*c
 |[]=>by simp
 |a::l=>by
  have:=YY (c:=c) l
  simp only[cJ,List.sum_cons,cE,Nat.add_mul];omega
theorem H6 {α:Type}{f:α→Nat}{c:Nat}:∀l:List α,(l.map fun x=>c*f x).sum=c*(l.map f).sum
 |[]=>rfl
 |a::l=>by
  have:=H6 (f:=f) (c:=c) l
  simp only[cJ,List.sum_cons,Nat.mul_add];omega
theorem Xe {α β:Type}{f:α→List β}:∀l:List α,(l.flatMap f).length=(l.map fun x=>(f x).length).sum
 |[]=>rfl
 |a::l=>by
  have:=Xe (f:=f) l
  simp only[dD,cC,cJ,List.sum_cons];omega
theorem C0 {c:Prop}[Decidable c]{a b n:Nat}(ha:a≤n)(hb:b≤n):(if c then a else b)≤n:=by
 by_cases h:c
 ·rw[fC h];exact ha
 ·rw[fD h];exact hb
theorem FJ (k:Int):(J4 k).1.length≤2:=by
 simp only[J4,apply_ite Prod.fst,apply_ite List.length,cE,cL]
 repeat' (first|refine C0 ?_ ?_|decide)
theorem LL:∀(x:Exp),ZC x=true→(Qh x).length+4≤64*YK x:=by
 intro x
 induction hn:SizeOf.sizeOf x using Nat.strongRecOn generalizing x with
 |_ sz ih=>
 intro hwf
 obtain⟨k,n,i,xs⟩:=x
 simp only[ZC,cD]at hwf
 obtain⟨hhd,hxs⟩:=hwf
 obtain⟨hin,har⟩:=MF hhd
 have hT:∀y∈xs,(Qh y).length+4≤64*YK y:=fun y hy=>ih _ (by
  have:=cY hy
  rw[←hn];simp only[Exp.mk.sizeOf_spec];omega) y rfl (by rw[Xb]at hxs;exact cH.1 hxs y hy)
 have hname:(k=2∨k=19)→n.length≤16:=fun h=>by
  simp only[Yf,cD]at hhd
  have:=hhd.2
  rw[fC h]at this
  exact Qz this
 rw[VZ,Qh,WA]
 by_cases h1:k=1
 ·have:=JU hin
  rw[show V0 k n i xs (xs.map Qh)=Lib.itoa i by simp [V0,h1]];omega
 by_cases h2:k=2
 ·have:=hname (.inl h2)
  rw[show V0 k n i xs (xs.map Qh)=n by simp [V0,h2]];omega
 by_cases h3:k=3
 ·obtain⟨x0,rfl⟩:=fZ.1 (har 1 (by simp [Zo,h3]))
  rw[show V0 k n i [x0] ([x0].map Qh)=[45]++Zr (if x0.kind=1∧0≤x0.int then 8 else 6) x0.kind (Qh x0)by simp [V0,h3]]
  have:=hT x0 (by simp)
  have:=XD (l:=if x0.kind=1∧0≤x0.int then 8 else 6) (k:=x0.kind) (t:=Qh x0)
  simp only[cC,cQ,JJ,JC];omega
 by_cases h4:k=4
 ·obtain⟨x0,rfl⟩:=fZ.1 (har 1 (by simp [Zo,h4]))
  rw[show V0 k n i [x0] ([x0].map Qh)=[33]++Zr 6 x0.kind (Qh x0)by simp [V0,h4]]
  have:=hT x0 (by simp)
  have:=XD (l:=6) (k:=x0.kind) (t:=Qh x0)
  simp only[cC,cQ,JJ,JC];omega
 by_cases h18:k=18
 ·obtain⟨x0,x1,x2,rfl⟩:∃a b c,xs=[a,b,c]:=by
   match xs,har 3 (by simp [Zo,h18])with
   |[a,b,c],_=>exact⟨_,_,_,rfl⟩
  rw[show V0 k n i [x0,x1,x2] ([x0,x1,x2].map Qh)=Zr 1 x0.kind (Qh x0)++[32,63,32]++Qh x1++[32,58,32]++Qh x2 by simp [V0,h18]]
  have:=hT x0 (by simp);have:=hT x1 (by simp);have:=hT x2 (by simp)
  have:=XD (l:=1) (k:=x0.kind) (t:=Qh x0)
  simp only[cC,cE,cL,JJ,JC];omega
 by_cases h19:k=19
 ·rw[show V0 k n i xs (xs.map Qh)=n++[40]++Lib.join (xs.map Qh) [44,32]++[41]by simp [V0,h19]]
  have:=hname (.inr h19)
  have h5:=WD (sep:=[44,32]) (l:=xs.map Qh)
  have h6:(xs.map fun x=>(Qh x).length+2).sum≤(xs.map fun x=>64*YK x).sum:=VG fun x hx=>by have:=hT x hx;omega
  rw[H6]at h6
  rw[List.map_map]at h5
  have h7:(xs.map ((fun t:Bs=>t.length+[(44:UInt8),32].length)∘Qh)).sum=(xs.map fun x=>(Qh x).length+2).sum:=rfl
  simp only[cC,cQ,Jd]
  omega
 ·have h517:5≤k∧k≤17:=Decidable.byContradiction fun e=>by
   have:Zo k=none:=by simp only[Zo,h1,h2,h3,h4,h18,h19,e,or_self,if_false]
   simp [Yf,this]at hhd
  obtain⟨x0,x1,rfl⟩:∃a b,xs=[a,b]:=by
   match xs,har 2 (by simp only[Zo,h1,h2,h3,h4,h517,or_self,if_false,and_self,if_true])with
   |[a,b],_=>exact⟨_,_,rfl⟩
  rw[show V0 k n i [x0,x1] ([x0,x1].map Qh)=Zr (if Zd k=3 then 4 else Zd k) x0.kind (Qh x0)++[32]++(J4 k).1++[32]++Zr (Zd k+1) x1.kind (Qh x1)by simp [V0,h1,h2,h3,h4,h18,h19]]
  have:=hT x0 (by simp);have:=hT x1 (by simp)
  have:=XD (l:=if Zd k=3 then 4 else Zd k) (k:=x0.kind) (t:=Qh x0)
  have:=XD (l:=Zd k+1) (k:=x1.kind) (t:=Qh x1)
  have:=FJ k
  simp only[cC,cE,cL,JJ,JC];omega
theorem KQ {x:Exp}(h:ZC x=true)(hs:Zm x=true):(Qh x).length≤25600:=by
 have:=LL x h
 simp only[Zm,Siz.small,cD,dZ]at hs
 have:YK x≤400:=hs.1.1
 omega
theorem EP {t:Test}(h:Vp t=true):(XW t).length≤31:=by
 simp only[Vp,cD]at h
 have:=Qz h.1
 have:=JU h.2
 simp only[XW,cC]
 split <;> split <;> simp <;> omega
theorem Kz {l:List Test}(h:l.all Vp=true)(hl:l.length≤16):(Yq l).length≤600:=by
 have h1:=WD (sep:=[32,38,38,32]) (l:=l.map XW)
 rw[List.map_map]at h1
 have h2:(l.map ((fun t:Bs=>t.length+[(32:UInt8),38,38,32].length)∘XW)).sum≤(l.map fun _=>35).sum:=VG fun x hx=>by
  have:=EP (cH.1 h x hx)
  simp only[Function.comp,cE,cL];omega
 rw[YY]at h2
 unfold Yq;omega
theorem VJ {is:Bool}{w t:Bs}:(QO is w t).length≤w.length+t.length+2:=by
 unfold QO;split <;> simp <;> omega
theorem TC {x:Edge}(h:Y2 x=true)(hf:Uj x=true):(Vi x).length≤1000000:=by
 simp only[Y2,cD]at h
 simp only[Uj,cD,dZ]at hf
 obtain⟨⟨⟨⟨⟨⟨⟨⟨⟨a1,a2⟩,a3⟩,a4⟩,a5⟩,a6⟩,a7⟩,a8⟩,a9⟩,a10⟩:=h
 obtain⟨⟨⟨⟨b1,b2⟩,b3⟩,b4⟩,b5⟩:=hf
 have c1:=Qz a1;have c2:=Qz a2
 have c3:=Kz a3 b1
 have c4:(QO (!(isNone x.cond)) JM (Qh x.cond)).length≤25604:=by
  cases hn:isNone x.cond with
  |true=>simp [QO]
  |false=>
   rw[hn,cZ]at a4 b2
   have:=KQ a4 b2
   simp [QO,JM];omega
 have c5:x.chan.length≤16:=by
  cases hc:x.chan with
  |nil=>simp
  |cons a b=>
   rw[hc]at a6
   simp only[List.isEmpty_cons,cZ]at a6
   exact Qz a6
 have c6:(Lib.join (x.sets.map VR) [44,32]).length≤500000:=by
  have h1:=WD (sep:=[44,32]) (l:=x.sets.map VR)
  rw[List.map_map]at h1
  have h2:(x.sets.map ((fun t:Bs=>t.length+[(44:UInt8),32].length)∘VR)).sum≤(x.sets.map fun _=>25625).sum:=VG fun y hy=>by
   have h3:=cH.1 a7 y hy
   simp only[cD]at h3
   have h4:=KQ h3.2 (cH.1 b4 y hy)
   have h5:=Qz h3.1
   simp only[Function.comp,VR,cC,cE,cL];omega
  rw[YY]at h2;omega
 have c7:(Lib.join (x.clears.map Uc) [44,32]).length≤600:=by
  have h1:=WD (sep:=[44,32]) (l:=x.clears.map Uc)
  rw[List.map_map]at h1
  have h2:(x.clears.map ((fun t:Bs=>t.length+[(44:UInt8),32].length)∘Uc)).sum≤(x.clears.map fun _=>32).sum:=VG fun y hy=>by
   have h3:=cH.1 a8 y hy
   simp only[cD]at h3
   have h4:=JU h3.2
   have h5:=Qz h3.1
   simp only[Function.comp,Uc,cC,cE,cL];omega
  rw[YY]at h2;omega
 have c8:=JU a9;have c9:=JU a10
 have d1:=VJ (is:= !x.tests.isEmpty) (w:=Yv) (t:=Yq x.tests)
 have d2:=VJ (is:= !x.chan.isEmpty) (w:=Y8) (t:=x.chan++(if x.send then[33]else[63]))
 have d3:=VJ (is:= !x.sets.isEmpty) (w:=VA) (t:=Lib.join (x.sets.map VR) [44,32])
 have d4:=VJ (is:= !x.clears.isEmpty) (w:=Jb) (t:=Lib.join (x.clears.map Uc) [44,32])
 have d5:=VJ (is:=x.cost !=0) (w:=Jz) (t:=Lib.itoa x.cost)
 have d6:=VJ (is:=x.kind !=0) (w:=Ju) (t:=Lib.itoa x.kind)
 have d7:(if x.send then[(33:UInt8)]else[63]).length=1:=by split <;> rfl
 simp only[cC,d7]at d2
 have z1:Yv.length=4:=rfl
 have z2:Y8.length=4:=rfl
 have z3:VA.length=2:=rfl
 have z4:Jb.length=5:=rfl
 have z5:Jz.length=4:=rfl
 have z6:Ju.length=4:=rfl
 have z7:JF.length=4:=rfl
 simp only[Vi,cC,cE,cL]
 omega
section
variable (G:Nat→Option (List AV))
theorem k46 (hG:Gl G)(l:Loc)(A:Q3)(h:Vm l=true)(hl:l.inv.length≤16):Qu Tryz.prog G 46 [.agg l.cells] A (.str (XB l)) A:=by
 obtain⟨n,k,iv,r⟩:=l
 simp only[Vm,cD,dZ]at h
 simp only at hl
 obtain⟨⟨⟨h1,h2⟩,h3⟩,h4⟩:=h
 have n1:=Qz h1
 have n2:=Kz h3 hl
 have n3:=JU h4
 have hk:k=0∨k=1∨k=2:=by omega
 have htx:XB ⟨n,k,iv,r⟩=[9]++JD++[32]++n++X2 k++QO (!iv.isEmpty) Ua (Yq iv)++QO (r !=0) YF (Lib.itoa r)++[59,10]:=rfl
 rw[htx]
 refine Q4 l46 (fE rfl) ?_
 unfold C46
 refine Qd (fun env ds B=>∃d,env 1=.ptr d 0∧ds=[]∧A d=none∧B=A.upd d (some (.cells [.str n,i64 k,.slice 4 iv.length (iv.flatMap Test.cells) none,i64 r]))) ?_ ?_
 ·simp only[Loc.cells,Qy,Q1,seval]
  intro d hd
  exact⟨d,rfl,hd,rfl⟩
 rintro env ds B ⟨d,e1,rfl,hd,rfl⟩
 have hO:=(Z7.refl A).set hd (o:=some (.cells [.str n,i64 k,.slice 4 iv.length (iv.flatMap Test.cells) none,i64 r])) (by simp)
 have hdB:(A.upd d (some (.cells [.str n,i64 k,.slice 4 iv.length (iv.flatMap Test.cells) none,i64 r]))) d=_:=Q0 ..
 generalize A.upd d (some (.cells [.str n,i64 k,.slice 4 iv.length (iv.flatMap Test.cells) none,i64 r]))=B at*
 refine Qd (fun env ds B'=>env 1=.ptr d 0∧env 3=.str ([9]++JD++[32]++n++X2 k)∧ds=[]∧B=B') ?_ ?_
 ·simp only[e1,hdB,Q1,seval]
  refine QV (QB (by simp;omega)) ?_
  rcases hk with rfl|rfl|rfl
  ·simp only[e1,hdB,Q1,seval]
   refine QV (QB (by simp;omega)) ?_
   simp only[e1,Q1,seval]
   simp [X2,JD]
  ·simp only[e1,hdB,Q1,seval]
   refine QV (QB (by simp;omega)) ?_
   simp only[e1,Q1,seval]
   simp [X2,Zq,JD]
  ·simp only[e1,hdB,Q1,seval]
   refine QV (QB (by simp;omega)) ?_
   simp only[e1,Q1,seval]
   simp [X2,YT,JD]
 rintro env ds _ ⟨e1,e3,rfl,rfl⟩
 have n4:(X2 k).length≤10:=by rcases hk with rfl|rfl|rfl <;> simp [X2,Zq,YT]
 generalize hz:[9]++JD++[32]++n++X2 k=z at*
 have hzl:z.length≤40:=by rw[←hz];simp [JD];omega
 refine Qd (fun env ds B'=>env 1=.ptr d 0∧env 3=.str (z++QO (!iv.isEmpty) Ua (Yq iv))∧ds=[]∧B=B') ?_ ?_
 ·simp only[e1,e3,hdB,Q1,seval]
  refine⟨fun hp=> ?_,fun hp=> ?_⟩
  ·have:iv.isEmpty=false:=by cases iv with|nil=>simp at hp|cons=>rfl
   refine Q2 (CX G hG iv _ h3 (by omega) (by omega)) ?_
   simp only[e1,e3,Q1,seval]
   refine⟨by omega,by omega,by simp [QO,this,Ua]⟩
  ·have:iv.isEmpty=true:=by cases iv with|nil=>rfl|cons a b=>exact absurd (by simp) hp
   simp [QO,this]
 rintro env ds _ ⟨e1,e3,rfl,rfl⟩
 have n5:=VJ (is:= !iv.isEmpty) (w:=Ua) (t:=Yq iv)
 have n6:Ua.length=3:=rfl
 generalize hz2:z++QO (!iv.isEmpty) Ua (Yq iv)=z2 at*
 have hzl2:z2.length≤700:=by rw[←hz2,cC];omega
 refine Qd (fun env ds B'=>env 3=.str (z2++QO (r !=0) YF (Lib.itoa r))∧ds=[]∧B=B') ?_ ?_
 ·simp only[e1,e3,hdB,Q1,seval]
  refine⟨fun hp=> ?_,fun hp=> ?_⟩
  ·simp [QO,hp]
  ·refine Q2 (M4 G hG r _ h4) ?_
   simp only[e1,e3,Q1,seval]
   refine⟨by omega,by omega,by simp [QO,hp,YF]⟩
 rintro env ds _ ⟨e3,rfl,rfl⟩
 have n7:=VJ (is:=r !=0) (w:=YF) (t:=Lib.itoa r)
 have n8:YF.length=4:=rfl
 simp only[e3,Q1,seval]
 refine⟨by simp;omega,Qb rfl hO⟩
theorem k111 (hG:Gl G){A:Q3}{d:Nat}{src dst:Bs}{ts:List Test}{ck ci cst kd:Int}{cm ch:Bs}{cxs:List Exp}{sn:Bool}{ss:List Assign}{cs:List Clear}(hd:A d=some (.cells [.str src,.str dst,.slice 4 ts.length (ts.flatMap Test.cells) none,i64 ck,.str cm,i64 ci,.slice 4 cxs.length (Exp.cellsL cxs) none,.str ch,bo sn,.slice 5 ss.length (ss.flatMap Assign.cells) none,.slice 2 cs.length (cs.flatMap Clear.cells) none,i64 cst,i64 kd]))(h:ts.all Vp=true)(hl:ts.length≤16):Qu Tryz.prog G 111 [.ptr d 0] A (.str (Yq ts)) A:=by
 refine Q4 l111 (fE rfl) ?_
 simp only[qO,hd,Q1,seval]
 refine Q2 (CX G hG ts _ h (by omega) (by have:=Kz h hl;omega)) ?_
 simp only[Q1,seval]
 exact Qb rfl (.refl _)
theorem k113 (hG:Gl G){A:Q3}{d:Nat}{src dst:Bs}{ts:List Test}{ck ci cst kd:Int}{cm ch:Bs}{cxs:List Exp}{sn:Bool}{ss:List Assign}{cs:List Clear}(hd:A d=some (.cells [.str src,.str dst,.slice 4 ts.length (ts.flatMap Test.cells) none,i64 ck,.str cm,i64 ci,.slice 4 cxs.length (Exp.cellsL cxs) none,.str ch,bo sn,.slice 5 ss.length (ss.flatMap Assign.cells) none,.slice 2 cs.length (cs.flatMap Clear.cells) none,i64 cst,i64 kd]))(hw:ZC (.mk ck cm ci cxs)=true)(hs:Zm (.mk ck cm ci cxs)=true)(hk:Hl (.mk ck cm ci cxs)):Qu Tryz.prog G 113 [.ptr d 0] A (.str (Qh (.mk ck cm ci cxs))) A:=by
 refine Q4 l113 (fE rfl) ?_
 simp only[qM,hd,Q1,seval]
 have hexp:Zw (.mk ck cm ci cxs)=.agg [i64 ck,.str cm,i64 ci,.slice 4 cxs.length (Exp.cellsL cxs) none]:=rfl
 rw[←hexp]
 refine Q2 (CV G hG _ hw hs hk.1 hk.2 (by have:=KQ hw hs;omega)) ?_
 simp only[Q1,seval]
 exact Qb rfl (.refl _)
theorem k115 (hG:Gl G){A:Q3}{d:Nat}{src dst:Bs}{ts:List Test}{ck ci cst kd:Int}{cm ch:Bs}{cxs:List Exp}{sn:Bool}{ss:List Assign}{cs:List Clear}(hd:A d=some (.cells [.str src,.str dst,.slice 4 ts.length (ts.flatMap Test.cells) none,i64 ck,.str cm,i64 ci,.slice 4 cxs.length (Exp.cellsL cxs) none,.str ch,bo sn,.slice 5 ss.length (ss.flatMap Assign.cells) none,.slice 2 cs.length (cs.flatMap Clear.cells) none,i64 cst,i64 kd]))(hl:ch.length≤16):Qu Tryz.prog G 115 [.ptr d 0] A (.str (ch++(if sn then[33]else[63]))) A:=by
 refine Q4 l115 (fE rfl) ?_
 simp only[qK,hd,Q1,seval]
 cases sn with
 |true=>
  simp only[hd,Q1,seval]
  exact⟨by omega,Qb rfl (.refl _)⟩
 |false=>
  simp only[hd,Q1,seval]
  exact⟨by omega,Qb rfl (.refl _)⟩
theorem k116 (hG:Gl G){A:Q3}{d:Nat}{src dst:Bs}{ts:List Test}{ck ci cst kd:Int}{cm ch:Bs}{cxs:List Exp}{sn:Bool}{ss:List Assign}{cs:List Clear}(hd:A d=some (.cells [.str src,.str dst,.slice 4 ts.length (ts.flatMap Test.cells) none,i64 ck,.str cm,i64 ci,.slice 4 cxs.length (Exp.cellsL cxs) none,.str ch,bo sn,.slice 5 ss.length (ss.flatMap Assign.cells) none,.slice 2 cs.length (cs.flatMap Clear.cells) none,i64 cst,i64 kd]))(h:ss.all (fun a=>Qe a.name&&ZC a.val)=true)(hs:ss.all (fun a=>Zm a.val)=true)(hk:∀a∈ss,Hl a.val)(hn:ss.length≤16)(hl:(Lib.join (ss.map VR) [44,32]).length≤140737488355328):Qu Tryz.prog G 116 [.ptr d 0] A (.str (Lib.join (ss.map VR) [44,32])) A:=by
 refine Q4 l116 (fE rfl) ?_
 simp only[qJ,hd,Q1,seval]
 refine Q2 (kJ G l117 rfl (enc:=Assign.cells) (tx:=VR) Assign.cells_len (fun a=>by obtain⟨n,v⟩:=a;obtain⟨k,m,i,xs⟩:=v;rfl) rfl rfl rfl (by omega) hl fun x hx A=> ?_) ?_
 ·have h1:=cH.1 h x hx
  have h2:=cH.1 hs x hx
  simp only[cD]at h1
  exact k118 G hG x A (by simp [h1.1,h1.2]) h2 (hk x hx) (by have:=KQ h1.2 h2;omega)
 simp only[Q1,seval]
 exact Qb rfl (.refl _)
theorem k119 (hG:Gl G){A:Q3}{d:Nat}{src dst:Bs}{ts:List Test}{ck ci cst kd:Int}{cm ch:Bs}{cxs:List Exp}{sn:Bool}{ss:List Assign}{cs:List Clear}(hd:A d=some (.cells [.str src,.str dst,.slice 4 ts.length (ts.flatMap Test.cells) none,i64 ck,.str cm,i64 ci,.slice 4 cxs.length (Exp.cellsL cxs) none,.str ch,bo sn,.slice 5 ss.length (ss.flatMap Assign.cells) none,.slice 2 cs.length (cs.flatMap Clear.cells) none,i64 cst,i64 kd]))(h:cs.all (fun c=>Qe c.clock&&ZJ c.tv)=true)(hn:cs.length≤16)(hl:(Lib.join (cs.map Uc) [44,32]).length≤140737488355328):Qu Tryz.prog G 119 [.ptr d 0] A (.str (Lib.join (cs.map Uc) [44,32])) A:=by
 refine Q4 l119 (fE rfl) ?_
 simp only[qH,hd,Q1,seval]
 refine Q2 (kJ G l120 rfl (enc:=Clear.cells) (tx:=Uc) (fun _=>rfl) (fun _=>rfl) rfl rfl rfl (by omega) hl fun x hx A=>k121 G hG x A (cH.1 h x hx)) ?_
 simp only[Q1,seval]
 exact Qb rfl (.refl _)
theorem k122 (hG:Gl G){A:Q3}{d:Nat}{src dst:Bs}{ts:List Test}{ck ci cst kd:Int}{cm ch:Bs}{cxs:List Exp}{sn:Bool}{ss:List Assign}{cs:List Clear}(hd:A d=some (.cells [.str src,.str dst,.slice 4 ts.length (ts.flatMap Test.cells) none,i64 ck,.str cm,i64 ci,.slice 4 cxs.length (Exp.cellsL cxs) none,.str ch,bo sn,.slice 5 ss.length (ss.flatMap Assign.cells) none,.slice 2 cs.length (cs.flatMap Clear.cells) none,i64 cst,i64 kd]))(h:ZJ cst=true):Qu Tryz.prog G 122 [.ptr d 0] A (.str (Lib.itoa cst)) A:=by
 refine Q4 l122 (fE rfl) ?_
 simp only[qF,hd,Q1,seval]
 refine Q2 (M4 G hG _ _ h) ?_
 simp only[Q1,seval]
 exact Qb rfl (.refl _)
theorem k123 (hG:Gl G){A:Q3}{d:Nat}{src dst:Bs}{ts:List Test}{ck ci cst kd:Int}{cm ch:Bs}{cxs:List Exp}{sn:Bool}{ss:List Assign}{cs:List Clear}(hd:A d=some (.cells [.str src,.str dst,.slice 4 ts.length (ts.flatMap Test.cells) none,i64 ck,.str cm,i64 ci,.slice 4 cxs.length (Exp.cellsL cxs) none,.str ch,bo sn,.slice 5 ss.length (ss.flatMap Assign.cells) none,.slice 2 cs.length (cs.flatMap Clear.cells) none,i64 cst,i64 kd]))(h:ZJ kd=true):Qu Tryz.prog G 123 [.ptr d 0] A (.str (Lib.itoa kd)) A:=by
 refine Q4 l123 (fE rfl) ?_
 simp only[qE,hd,Q1,seval]
 refine Q2 (M4 G hG _ _ h) ?_
 simp only[Q1,seval]
 exact Qb rfl (.refl _)
theorem Ku {is:Bool}{w t:Bs}(h:is=true):w.length+t.length≤(QO is w t).length:=by
 subst h;simp [QO];omega
theorem k48 (hG:Gl G)(x:Edge)(A:Q3)(h:Y2 x=true)(hf:Uj x=true)(hlt:Iz x):Qu Tryz.prog G 48 [.agg x.cells] A (.str (Vi x)) A:=by
 have hl:=TC h hf
 obtain⟨src,dst,ts,co,ch,sn,ss,cs,cst,kd⟩:=x
 obtain⟨ck,cm,ci,cxs⟩:=co
 simp only[Y2,cD]at h
 simp only[Uj,cD,dZ]at hf
 obtain⟨⟨⟨⟨⟨⟨⟨⟨⟨a1,a2⟩,a3⟩,a4⟩,a5⟩,a6⟩,a7⟩,a8⟩,a9⟩,a10⟩:=h
 obtain⟨⟨⟨⟨b1,b2⟩,b3⟩,b4⟩,b5⟩:=hf
 obtain⟨y1,y2,y3,y4,y5,y6,y7,y8,y9,y10⟩:=hlt
 simp only at y5 y8
 have c1:=Qz a1;have c2:=Qz a2
 have c5:ch.length≤16:=by
  cases ch with
  |nil=>simp
  |cons a b=>
   simp only[List.isEmpty_cons,cZ]at a6
   exact Qz a6
 have htx:Vi ⟨src,dst,ts,.mk ck cm ci cxs,ch,sn,ss,cs,cst,kd⟩=[9]++JF++[32]++src++[32,45,62,32]++dst++QO (!ts.isEmpty) Yv (Yq ts)++QO (!(isNone (.mk ck cm ci cxs))) JM (Qh (.mk ck cm ci cxs))++QO (!ch.isEmpty) Y8 (ch++(if sn then[33]else[63]))++
  QO (!ss.isEmpty) VA (Lib.join (ss.map VR) [44,32])++QO (!cs.isEmpty) Jb (Lib.join (cs.map Uc) [44,32])++QO (cst !=0) Jz (Lib.itoa cst)++QO (kd !=0) Ju (Lib.itoa kd)++[59,10]:=rfl
 rw[htx]at hl⊢
 have m1:=VJ (is:= !ss.isEmpty) (w:=VA) (t:=Lib.join (ss.map VR) [44,32])
 have w1:Yv.length=4:=rfl
 have w2:Y8.length=4:=rfl
 have w3:VA.length=2:=rfl
 have w4:Jb.length=5:=rfl
 have w5:Jz.length=4:=rfl
 have w6:Ju.length=4:=rfl
 have w7:JM.length=2:=rfl
 have lT:=Kz a3 b1
 have lI:=JU a9;have lK:=JU a10
 have lS:(ch++(if sn then[(33:UInt8)]else[63])).length≤17:=by cases sn <;> simp <;> omega
 refine Q4 l48 (fE rfl) ?_
 unfold C48
 refine Qd (fun env ds B=>∃d,env 1=.ptr d 0∧ds=[]∧A d=none∧B=A.upd d (some (.cells [.str src,.str dst,.slice 4 ts.length (ts.flatMap Test.cells) none,i64 ck,.str cm,i64 ci,.slice 4 cxs.length (Exp.cellsL cxs) none,.str ch,bo sn,.slice 5 ss.length (ss.flatMap Assign.cells) none,.slice 2 cs.length (cs.flatMap Clear.cells) none,i64 cst,i64 kd]))) ?_ ?_
 ·simp only[Edge.cells,Exp.cells,Qy,Q1,seval]
  intro d hd
  exact⟨d,rfl,hd,rfl⟩
 rintro env ds B ⟨d,e1,rfl,hd,rfl⟩
 have hdA:(A.upd d (some (.cells [.str src,.str dst,.slice 4 ts.length (ts.flatMap Test.cells) none,i64 ck,.str cm,i64 ci,.slice 4 cxs.length (Exp.cellsL cxs) none,.str ch,bo sn,.slice 5 ss.length (ss.flatMap Assign.cells) none,.slice 2 cs.length (cs.flatMap Clear.cells) none,i64 cst,i64 kd]))) d=_:=Q0 ..
 have unO:∀B,Z7 (A.upd d (some (.cells [.str src,.str dst,.slice 4 ts.length (ts.flatMap Test.cells) none,i64 ck,.str cm,i64 ci,.slice 4 cxs.length (Exp.cellsL cxs) none,.str ch,bo sn,.slice 5 ss.length (ss.flatMap Assign.cells) none,.slice 2 cs.length (cs.flatMap Clear.cells) none,i64 cst,i64 kd]))) B→Z7 A B:=fun B h=>h.unset hd
 generalize A.upd d (some (.cells [.str src,.str dst,.slice 4 ts.length (ts.flatMap Test.cells) none,i64 ck,.str cm,i64 ci,.slice 4 cxs.length (Exp.cellsL cxs) none,.str ch,bo sn,.slice 5 ss.length (ss.flatMap Assign.cells) none,.slice 2 cs.length (cs.flatMap Clear.cells) none,i64 cst,i64 kd]))=A1 at*
 refine Qd (fun env ds B=>∃q,env 1=.ptr d 0∧env 3=.ptr q 0∧ds=[]∧A1 q=none∧B=A1.upd q (some (.cells [.str ([9]++JF++[32]++src++[32,45,62,32]++dst)]))) ?_ ?_
 ·simp only[e1,hdA,Q1,seval]
  exact⟨by omega,by omega,by simp;omega,fun q hq=>⟨q,rfl,hq,by simp [JF]⟩⟩
 rintro env ds B ⟨q,e1,e3,rfl,hq,rfl⟩
 have hdq:=Q6 hdA hq
 generalize hS0:[9]++JF++[32]++src++[32,45,62,32]++dst=S0 at*
 refine Qd (fun env ds B=>env 1=.ptr d 0∧env 3=.ptr q 0∧env 4=.func (.func 110) [] [.ptr q 0]∧ds=[]∧B=A1.upd q (some (.cells [.str S0]))) ?_ ?_
 ·simp only[e1,e3,Q1,seval]
 rintro env ds B ⟨e1,e3,e4,rfl,rfl⟩
 have hdB:=(Qa A1 q (some (.cells [.str S0])) hdq).trans hdA
 have hll:S0.length≤1000000∧(QO (!ts.isEmpty) Yv (Yq ts)).length≤1000000:=by simp only[cC]at hl;constructor <;> omega
 have hlt0:(!ts.isEmpty)=true→S0.length+Yv.length+(Yq ts).length≤10000000:=fun e=>by have:=Ku (w:=Yv) (t:=Yq ts) e;omega
 refine Qd (fun env ds B=>env 1=.ptr d 0∧env 3=.ptr q 0∧env 4=.func (.func 110) [] [.ptr q 0]∧ds=[]∧B=A1.upd q (some (.cells [.str (S0++QO (!ts.isEmpty) Yv (Yq ts))]))) ?_ ?_
 ·simp only[e1,e3,e4,hdB,Q1,seval]
  refine⟨fun hp=> ?_,fun hp=> ?_⟩
  ·have hb:(!ts.isEmpty)=true:=by cases ts with|nil=>simp at hp|cons=>rfl
   have hl0:=hlt0 hb
   rw[hb]
   refine Q2 (Wb G (is:=true) (w:=Yv) (t:=(Yq ts)) (fn:=111) (Q0 ..) (fun _=>k111 G hG hdB a3 b1) fun _=>by omega) ?_
   simp only[e1,e3,e4,QZ,Q1,seval]
  ·have hb:(!ts.isEmpty)=false:=by cases ts with|nil=>rfl|cons a b=>exact absurd (by simp) hp
   rw[hb]
   refine Q2 (Wb G (is:=false) (w:=Yv) (t:=(Yq ts)) (fn:=111) (Q0 ..) (fun h=>by cases h) fun h=>by cases h) ?_
   simp only[e1,e3,e4,QZ,Q1,seval]
 generalize hS1:S0++QO (!ts.isEmpty) Yv (Yq ts)=S1 at*
 rintro env ds B ⟨e1,e3,e4,rfl,rfl⟩
 have hdB:=(Qa A1 q (some (.cells [.str S1])) hdq).trans hdA
 have hll:S1.length≤1000000∧(QO (!(isNone (.mk ck cm ci cxs))) JM (Qh (.mk ck cm ci cxs))).length≤1000000:=by simp only[cC]at hl;constructor <;> omega
 have hlt1:(!(isNone (.mk ck cm ci cxs)))=true→S1.length+JM.length+(Qh (.mk ck cm ci cxs)).length≤10000000:=fun e=>by have:=Ku (w:=JM) (t:=Qh (.mk ck cm ci cxs)) e;omega
 refine Qd (fun env ds B=>env 1=.ptr d 0∧env 3=.ptr q 0∧env 4=.func (.func 110) [] [.ptr q 0]∧ds=[]∧B=A1.upd q (some (.cells [.str (S1++QO (!(isNone (.mk ck cm ci cxs))) JM (Qh (.mk ck cm ci cxs)))]))) ?_ ?_
 ·simp only[e1,e3,e4,hdB,Q1,seval]
  have hexp:Zw (.mk ck cm ci cxs)=.agg [i64 ck,.str cm,i64 ci,.slice 4 cxs.length (Exp.cellsL cxs) none]:=rfl
  rw[←hexp]
  refine Q2 (CW G _) ?_
  cases hnn:isNone (.mk ck cm ci cxs)with
  |true=>
   simp only[e1,e3,e4,hdB,Q1,seval]
   refine Q2 (Wb G (is:=false) (w:=JM) (t:=Qh (.mk ck cm ci cxs)) (fn:=113) (Q0 ..) (fun h=>by cases h) fun h=>by cases h) ?_
   simp only[e1,e3,e4,QZ,Q1,seval]
  |false=>
   rw[hnn,cZ]at a4 b2
   have hl0:=hlt1 (by rw[hnn];rfl)
   simp only[e1,e3,e4,hdB,Q1,seval]
   refine Q2 (Wb G (is:=true) (w:=JM) (t:=Qh (.mk ck cm ci cxs)) (fn:=113) (Q0 ..) (fun _=>k113 G hG hdB a4 b2 y5) fun _=>by omega) ?_
   simp only[e1,e3,e4,QZ,Q1,seval]
 generalize hS2:S1++QO (!(isNone (.mk ck cm ci cxs))) JM (Qh (.mk ck cm ci cxs))=S2 at*
 rintro env ds B ⟨e1,e3,e4,rfl,rfl⟩
 have hdB:=(Qa A1 q (some (.cells [.str S2])) hdq).trans hdA
 have hll:S2.length≤1000000∧(QO (!ch.isEmpty) Y8 (ch++(if sn then[33]else[63]))).length≤1000000:=by simp only[cC]at hl;constructor <;> omega
 have hlt2:(!ch.isEmpty)=true→S2.length+Y8.length+(ch++(if sn then[33]else[63])).length≤10000000:=fun e=>by have:=Ku (w:=Y8) (t:=(ch++(if sn then[33]else[63]))) e;omega
 refine Qd (fun env ds B=>env 1=.ptr d 0∧env 3=.ptr q 0∧env 4=.func (.func 110) [] [.ptr q 0]∧ds=[]∧B=A1.upd q (some (.cells [.str (S2++QO (!ch.isEmpty) Y8 (ch++(if sn then[33]else[63])))]))) ?_ ?_
 ·simp only[e1,e3,e4,hdB,Q1,seval]
  refine⟨fun hp=> ?_,fun hp=> ?_⟩
  ·have hb:(!ch.isEmpty)=false:=by rw[hp];rfl
   rw[hb]
   refine Q2 (Wb G (is:=false) (w:=Y8) (t:=(ch++(if sn then[33]else[63]))) (fn:=115) (Q0 ..) (fun h=>by cases h) fun h=>by cases h) ?_
   simp only[e1,e3,e4,QZ,Q1,seval]
  ·have hb:(!ch.isEmpty)=true:=by cases ch with|nil=>exact absurd rfl hp|cons=>rfl
   have hl0:=hlt2 hb
   rw[hb]
   refine Q2 (Wb G (is:=true) (w:=Y8) (t:=(ch++(if sn then[33]else[63]))) (fn:=115) (Q0 ..) (fun _=>k115 G hG hdB c5) fun _=>by omega) ?_
   simp only[e1,e3,e4,QZ,Q1,seval]
 generalize hS3:S2++QO (!ch.isEmpty) Y8 (ch++(if sn then[33]else[63]))=S3 at*
 rintro env ds B ⟨e1,e3,e4,rfl,rfl⟩
 have hdB:=(Qa A1 q (some (.cells [.str S3])) hdq).trans hdA
 have hll:S3.length≤1000000∧(QO (!ss.isEmpty) VA (Lib.join (ss.map VR) [44,32])).length≤1000000:=by simp only[cC]at hl;constructor <;> omega
 have hlt3:(!ss.isEmpty)=true→S3.length+VA.length+(Lib.join (ss.map VR) [44,32]).length≤10000000:=fun e=>by have:=Ku (w:=VA) (t:=(Lib.join (ss.map VR) [44,32])) e;omega
 refine Qd (fun env ds B=>env 1=.ptr d 0∧env 3=.ptr q 0∧env 4=.func (.func 110) [] [.ptr q 0]∧ds=[]∧B=A1.upd q (some (.cells [.str (S3++QO (!ss.isEmpty) VA (Lib.join (ss.map VR) [44,32]))]))) ?_ ?_
 ·simp only[e1,e3,e4,hdB,Q1,seval]
  refine⟨fun hp=> ?_,fun hp=> ?_⟩
  ·have hb:(!ss.isEmpty)=true:=by cases ss with|nil=>simp at hp|cons=>rfl
   have hl0:=hlt3 hb
   rw[hb]
   refine Q2 (Wb G (is:=true) (w:=VA) (t:=(Lib.join (ss.map VR) [44,32])) (fn:=116) (Q0 ..) (fun _=>k116 G hG hdB a7 b4 (fun a ha=>(y8 a ha).2) b3 (by omega)) fun _=>by omega) ?_
   simp only[e1,e3,e4,QZ,Q1,seval]
  ·have hb:(!ss.isEmpty)=false:=by cases ss with|nil=>rfl|cons a b=>exact absurd (by simp) hp
   rw[hb]
   refine Q2 (Wb G (is:=false) (w:=VA) (t:=(Lib.join (ss.map VR) [44,32])) (fn:=116) (Q0 ..) (fun h=>by cases h) fun h=>by cases h) ?_
   simp only[e1,e3,e4,QZ,Q1,seval]
 generalize hS4:S3++QO (!ss.isEmpty) VA (Lib.join (ss.map VR) [44,32])=S4 at*
 rintro env ds B ⟨e1,e3,e4,rfl,rfl⟩
 have hdB:=(Qa A1 q (some (.cells [.str S4])) hdq).trans hdA
 have hll:S4.length≤1000000∧(QO (!cs.isEmpty) Jb (Lib.join (cs.map Uc) [44,32])).length≤1000000:=by simp only[cC]at hl;constructor <;> omega
 have hlt4:(!cs.isEmpty)=true→S4.length+Jb.length+(Lib.join (cs.map Uc) [44,32]).length≤10000000:=fun e=>by have:=Ku (w:=Jb) (t:=(Lib.join (cs.map Uc) [44,32])) e;omega
 refine Qd (fun env ds B=>env 1=.ptr d 0∧env 3=.ptr q 0∧env 4=.func (.func 110) [] [.ptr q 0]∧ds=[]∧B=A1.upd q (some (.cells [.str (S4++QO (!cs.isEmpty) Jb (Lib.join (cs.map Uc) [44,32]))]))) ?_ ?_
 ·simp only[e1,e3,e4,hdB,Q1,seval]
  refine⟨fun hp=> ?_,fun hp=> ?_⟩
  ·have hb:(!cs.isEmpty)=true:=by cases cs with|nil=>simp at hp|cons=>rfl
   have hl0:=hlt4 hb
   rw[hb]
   refine Q2 (Wb G (is:=true) (w:=Jb) (t:=(Lib.join (cs.map Uc) [44,32])) (fn:=119) (Q0 ..) (fun _=>k119 G hG hdB a8 b5 (by omega)) fun _=>by omega) ?_
   simp only[e1,e3,e4,QZ,Q1,seval]
  ·have hb:(!cs.isEmpty)=false:=by cases cs with|nil=>rfl|cons a b=>exact absurd (by simp) hp
   rw[hb]
   refine Q2 (Wb G (is:=false) (w:=Jb) (t:=(Lib.join (cs.map Uc) [44,32])) (fn:=119) (Q0 ..) (fun h=>by cases h) fun h=>by cases h) ?_
   simp only[e1,e3,e4,QZ,Q1,seval]
 generalize hS5:S4++QO (!cs.isEmpty) Jb (Lib.join (cs.map Uc) [44,32])=S5 at*
 rintro env ds B ⟨e1,e3,e4,rfl,rfl⟩
 have hdB:=(Qa A1 q (some (.cells [.str S5])) hdq).trans hdA
 have hll:S5.length≤1000000∧(QO (cst !=0) Jz (Lib.itoa cst)).length≤1000000:=by simp only[cC]at hl;constructor <;> omega
 have hlt5:(cst !=0)=true→S5.length+Jz.length+(Lib.itoa cst).length≤10000000:=fun e=>by have:=Ku (w:=Jz) (t:=(Lib.itoa cst)) e;omega
 refine Qd (fun env ds B=>env 1=.ptr d 0∧env 3=.ptr q 0∧env 4=.func (.func 110) [] [.ptr q 0]∧ds=[]∧B=A1.upd q (some (.cells [.str (S5++QO (cst !=0) Jz (Lib.itoa cst))]))) ?_ ?_
 ·simp only[e1,e3,e4,hdB,Q1,seval]
  refine⟨fun hp=> ?_,fun hp=> ?_⟩
  ·have hb:(cst !=0)=false:=by simp [hp]
   rw[hb]
   refine Q2 (Wb G (is:=false) (w:=Jz) (t:=(Lib.itoa cst)) (fn:=122) (Q0 ..) (fun h=>by cases h) fun h=>by cases h) ?_
   simp only[e1,e3,e4,QZ,Q1,seval]
  ·have hb:(cst !=0)=true:=by simp [hp]
   have hl0:=hlt5 hb
   rw[hb]
   refine Q2 (Wb G (is:=true) (w:=Jz) (t:=(Lib.itoa cst)) (fn:=122) (Q0 ..) (fun _=>k122 G hG hdB a9) fun _=>by omega) ?_
   simp only[e1,e3,e4,QZ,Q1,seval]
 generalize hS6:S5++QO (cst !=0) Jz (Lib.itoa cst)=S6 at*
 rintro env ds B ⟨e1,e3,e4,rfl,rfl⟩
 have hdB:=(Qa A1 q (some (.cells [.str S6])) hdq).trans hdA
 have hll:S6.length≤1000000∧(QO (kd !=0) Ju (Lib.itoa kd)).length≤1000000:=by simp only[cC]at hl;constructor <;> omega
 have hlt6:(kd !=0)=true→S6.length+Ju.length+(Lib.itoa kd).length≤10000000:=fun e=>by have:=Ku (w:=Ju) (t:=(Lib.itoa kd)) e;omega
 refine Qd (fun env ds B=>env 1=.ptr d 0∧env 3=.ptr q 0∧env 4=.func (.func 110) [] [.ptr q 0]∧ds=[]∧B=A1.upd q (some (.cells [.str (S6++QO (kd !=0) Ju (Lib.itoa kd))]))) ?_ ?_
 ·simp only[e1,e3,e4,hdB,Q1,seval]
  refine⟨fun hp=> ?_,fun hp=> ?_⟩
  ·have hb:(kd !=0)=false:=by simp [hp]
   rw[hb]
   refine Q2 (Wb G (is:=false) (w:=Ju) (t:=(Lib.itoa kd)) (fn:=123) (Q0 ..) (fun h=>by cases h) fun h=>by cases h) ?_
   simp only[e1,e3,e4,QZ,Q1,seval]
  ·have hb:(kd !=0)=true:=by simp [hp]
   have hl0:=hlt6 hb
   rw[hb]
   refine Q2 (Wb G (is:=true) (w:=Ju) (t:=(Lib.itoa kd)) (fn:=123) (Q0 ..) (fun _=>k123 G hG hdB a10) fun _=>by omega) ?_
   simp only[e1,e3,e4,QZ,Q1,seval]
 generalize hS7:S6++QO (kd !=0) Ju (Lib.itoa kd)=S7 at*
 rintro env ds B ⟨e1,e3,e4,rfl,rfl⟩
 have hsl:S7.length≤1000000:=by simp only[cC]at hl;omega
 simp only[e3,Q1,seval]
 exact⟨by omega,Qb rfl (unO _ ((Z7.refl _).set hq (by simp)))⟩
end
end Go.Proofs.YtcbjbgaefighcaaGreatDoor
