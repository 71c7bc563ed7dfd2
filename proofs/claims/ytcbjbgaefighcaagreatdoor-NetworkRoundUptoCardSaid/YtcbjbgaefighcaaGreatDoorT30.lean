/- Part 30 of the proof. -/
import Derived.Test.YtcbjbgaefighcaaGreatDoorT0
import Derived.Test.YtcbjbgaefighcaaGreatDoorT29
set_option linter.all false
namespace Go.Proofs.YtcbjbgaefighcaaGreatDoor
open Go Go.Ax Go.Proofs
def CJ (sz t:Nat)(z:List Value):LC:=
 .seq (.ops [⟨some 6,.mv (.const (.string ⟨#[]⟩)),none⟩])<|
 .seq (.ops [⟨some 7,.mv (.const (.slice none 0 0)),none⟩])<|
 .seq (.seq (.ops [⟨some 10,.mv (.tmp 0),none⟩,
  ⟨some 11,.lenOf .slice (.tmp 10),none⟩,
  ⟨some 12,.mv (.const (.int .i64 0)),none⟩])<|
 .block 0<|.loop<|.seq (.ops [⟨some 13,.bin .lss .num (.tmp 12) (.tmp 11),none⟩])<|
  .seq (.cond (.tmp 13) (.skip)<|
   .exit 0)<|
  .seq (.block 1<|.seq (.ops [⟨some 14,.idxS sz (.tmp 10) (.tmp 12),none⟩,
   ⟨some 15,.load sz true (.tmp 14),none⟩,
   ⟨some 9,.alloc t z,none⟩,
   ⟨none,.store sz (.tmp 9) (.tmp 15),none⟩])<|
   .ops [⟨some 16,.mv (.tmp 7),none⟩,
    ⟨some 17,.mv (.tmp 2),none⟩,
    ⟨some 18,.load sz true (.tmp 9),none⟩,
    ⟨some 19,.call (.tmp 17) [.tmp 18],none⟩,
    ⟨some 20,.bslice 9 1 1 [.string ⟨#[]⟩] [(0,.tmp 19)],none⟩,
    ⟨some 21,.app 9 1 16 (.tmp 16) (.tmp 20),none⟩,
    ⟨some 7,.mv (.tmp 21),none⟩])<|
  .ops [⟨some 22,.bin .add .num (.tmp 12) (.const (.int .i64 1)),none⟩,
   ⟨some 12,.mv (.tmp 22),none⟩])<|
 .seq (.ops [⟨some 23,.mv (.tmp 7),none⟩,
  ⟨some 24,.mv (.tmp 1),none⟩,
  ⟨some 25,.call (.func 42) [.tmp 23,.tmp 24],none⟩,
  ⟨some 6,.mv (.tmp 25),none⟩])<|
 .ret
theorem Nm {A B:Q2}:Tips A [] [none] B:={
 tip:=fun i t h=>by
  match i,h with
  |0,h=>cases h
 inj:=fun i j t h=>by
  match i,h with
  |0,h=>cases h}
section
variable (G:Nat→Option (List AV))
theorem kJ {α:Type}{A:Q2}{f sz t:Nat}{z:List Value}(hl:Qa Tryz.prog f=some ⟨26,false,[.tmp 6],CJ sz t z⟩)(ht:(@BEq.beq Nat _ t 102)=false){xs:List α}{enc:α→List AV}(hsz:∀x,(enc x).length=sz)(hone:∀x,(enc x).all AV.one=true)(hz:z.length=sz){tx:α→Bs}{fn:FuncId}{n:Nat}{cs:List AV}{t1:Option Nat}(hn:n=xs.length)(hcs:cs=xs.flatMap enc){sep:Bs}(hlen:xs.length≤1000000)
 (hj:(Lib.join (xs.map tx) sep).length≤140737488355328)(hp:∀x∈xs,∀A,QB Tryz.prog G fn [.agg (enc x)] A (.str (tx x)) A):
 QB Tryz.prog G f [.slice sz n cs t1,.str sep,.func (.func fn) [] []] A (.str (Lib.join (xs.map tx) sep)) A:=by
 subst hn hcs
 refine Q4 hl (fE rfl) ?_
 simp only[CJ,Q1,seval]
 refine Qt (fun k env ds B=>∃pre post v τ,xs=pre++post∧k=post.length∧env 1=.str sep∧env 2=.func (.func fn) [] []∧env 7=v∧env 10=.slice sz xs.length (xs.flatMap enc) t1∧env 11=i64 xs.length∧env 12=i64 pre.length∧ds=[]∧QU A B∧KN 1 Zp (pre.map tx) v τ∧Tips A [] [τ] B) xs.length
  ⟨[],xs,_,none,rfl,rfl,rfl,rfl,rfl,rfl,rfl,rfl,rfl,.refl _,.inl ⟨rfl,rfl,rfl⟩,Nm⟩ ?_
 rintro k env ds B ⟨pre,post,v,τ,hpp,rfl,e1,e2,e7,e10,e11,e12,rfl,hO,hv,hT⟩
 have hl2:(pre.length:Int)+post.length=xs.length:=by rw[hpp];simp
 cases post with
 |nil=>
  have hlt:¬((pre.length:Int)<xs.length):=by simp at hl2;omega
  have hpl:xs=pre:=by rw[hpp];simp
  rw[←hpl]at hv
  simp only[e1,e2,e7,e10,e11,e12,Q1,seval]
  refine⟨fun h=>absurd h hlt,fun _=> ?_⟩
  have h42:QB Tryz.prog G 42 [v,.str sep] B (.str (Lib.join (xs.map tx) sep)) B:=Qq.wk (.cons hv.wk (.cons (Wk.refl _) .nil)) (f42 G (xs.map tx) sep rfl rfl B (by simp;omega) hj)
  refine Q3 h42 ?_
  simp only[Q1,seval]
  exact Qc rfl hO
 |cons x post=>
  have hlt:((pre.length:Int)<xs.length):=by simp at hl2;omega
  have e3:IntKind.i64.wrap ((pre.length:Int)+1)=((pre++[x]).length:Nat):=by rw[Qe (by omega) (by omega)];simp
  have hd:(xs.flatMap enc).drop (pre.length*sz)=enc x++post.flatMap enc:=by rw[hpp,Zd hsz];simp
  simp only[e1,e2,e7,e10,e11,e12,ht,Q1,seval]
  refine⟨fun _=>⟨hlt,?_⟩,fun h=>absurd hlt h⟩
  rw[hd,dM (hsz x)]
  refine⟨by simp [hsz],fun q hq=> ?_⟩
  rw[H9 (hsz x) (LS hz) (hone x),QY]
  have t2':(enc x).take sz=enc x:=dX (by rw[hsz];exact fG _)
  have hO:=hO.set (hO.gone hq) (o:=some (.cells (enc x))) (by simp)
  have hT:=hT.new (some (.cells (enc x))) hq
  simp only[e1,e2,e7,e10,e11,e12,hsz,t2',Q1,seval]
  refine Q3 (hp x (by rw[hpp];simp) _) ?_
  generalize B.upd q (some (.cells (enc x)))=B at*
  simp only[Q1,seval]
  refine QW (cs:=[.str (tx x)]) (J5 _ _ rfl (by decide)) fun t2 ht2=> ?_
  simp only[e7,Qx,Q1,seval]
  refine WA (enc:=Zp) (y:=tx x) (i:=0) hv (hT.new (some .tip) ht2) rfl (hO.set (hO.gone ht2) (by simp)) (by simp) (by simp;simp at hl2;omega) rfl fun v' τ' B' q1 q2 q3 q4=> ?_
  simp only[e1,e2,e10,e11,e12,e3,Q1,seval]
  exact⟨post.length,by simp,pre++[x],post,v',τ',by simp [hpp],rfl,rfl,rfl,q3,by simpa using q1,q2⟩
theorem M3 (hG:Gl G)(n:Int)(A:Q2)(hn:ZQ n=true):QB Tryz.prog G 43 [i64 n] A (.str (Lib.itoa n)) A:=by
 simp only[ZQ,dZ]at hn
 refine Q4 l43 (fE rfl) ?_
 simp only[C43,Q1,seval]
 refine Q3 (Cv hG n _ (by omega) (by omega)) ?_
 simp only[Q1,seval]
 exact Qc rfl (.refl _)
end
theorem K5:∀(k u:Nat),u<10^(k+1)→(Lib.decDigits u).length≤k+1
 |0,u,h=>by
  rw[Lib.decDigits,dif_pos (by simpa using h)];simp
 |k+1,u,h=>by
  rw[Lib.decDigits]
  split
  ·simp
  ·have:=K5 k (u / 10) (by rw[Nat.pow_succ]at h;omega)
   simp only[cC,cQ];omega
theorem JP {n:Int}(h:ZQ n=true):(Lib.itoa n).length≤11:=by
 simp only[ZQ,dZ]at h
 unfold Lib.itoa
 split
 ·have:=K5 9 n.natAbs (by omega)
  simp only[cE];omega
 ·have:=K5 9 n.toNat (by omega)
  omega
section
variable (G:Nat→Option (List AV))
theorem l185:Qa Tryz.prog 185=some ⟨26,false,[.tmp 6],CJ 4 179 [.string ⟨#[]⟩,.bool false,.bool false,.int .i64 0]⟩:=by kernel_rfl
theorem l117:Qa Tryz.prog 117=some ⟨26,false,[.tmp 6],CJ 5 56 [.string ⟨#[]⟩,.int .i64 0,.string ⟨#[]⟩,.int .i64 0,.slice none 0 0]⟩:=by kernel_rfl
theorem l120:Qa Tryz.prog 120=some ⟨26,false,[.tmp 6],CJ 2 163 [.string ⟨#[]⟩,.int .i64 0]⟩:=by kernel_rfl
theorem l45:Qa Tryz.prog 45=some ⟨26,false,[.tmp 6],CJ 4 97 [.string ⟨#[]⟩,.int .i64 0,.slice none 0 0,.int .i64 0]⟩:=by kernel_rfl
theorem l47:Qa Tryz.prog 47=some ⟨26,false,[.tmp 6],CJ 13 53 [.string ⟨#[]⟩,.string ⟨#[]⟩,.slice none 0 0,.int .i64 0,.string ⟨#[]⟩,.int .i64 0,.slice none 0 0,.string ⟨#[]⟩,.bool false,.slice none 0 0,.slice none 0 0,.int .i64 0,.int .i64 0]⟩:=by kernel_rfl
theorem k186 (hG:Gl G)(t:Test)(A:Q2)(h:Vj t=true):QB Tryz.prog G 186 [.agg t.cells] A (.str (XL t)) A:=by
 obtain⟨cl,lo,st,c⟩:=t
 simp only[Vj,cD]at h
 have h1:=Qy h.1
 have h2:=JP h.2
 have htx:XL ⟨cl,lo,st,c⟩=cl++[32]++((if lo then[62]else[60])++(if st then[]else[61]))++[32]++Lib.itoa c:=rfl
 rw[htx]
 refine Q4 l186 (fE rfl) ?_
 cases lo <;> cases st
 all_goals
  simp only[BL,Test.cells,Q1,seval]
  intro d hd
  refine ZA (Zb (by simp;omega)) ?_
  simp only[Q1,seval]
  refine ZA (Zb (by simp;omega)) ?_
  simp only[Q1,seval]
  refine ZA (Zb (by simp;omega)) ?_
  simp only[Q1,seval]
  refine Q3 (M3 G hG c _ h.2) ?_
  simp only[QM,Q1,seval]
  refine ZA (Zb (by simp;omega)) ?_
  simp only[Q1,seval]
  exact Qc (by simp) ((QU.refl A).set hd (by simp))
theorem Cp (hG:Gl G)(l:List Test)(A:Q2){t:Option Nat}(h:l.all Vj=true)(hlen:l.length≤1000)(hl:(YQ l).length≤140737488355328):QB Tryz.prog G 109 [.slice 4 l.length (l.flatMap Test.cells) t] A (.str (YQ l)) A:=by
 refine Q4 l109 (fE rfl) ?_
 simp only[Ay,Q1,seval]
 refine Q3 (kJ G l185 rfl (enc:=Test.cells) (tx:=XL) (fun _=>rfl) (fun _=>rfl) rfl rfl rfl (by omega) hl fun x hx A=>k186 G hG x A (cH.1 h x hx)) ?_
 simp only[Q1,seval]
 exact Qc rfl (.refl _)
theorem k121 (hG:Gl G)(x:Clear)(A:Q2)(h:(Qf x.clock&&ZQ x.tv)=true):QB Tryz.prog G 121 [.agg x.cells] A (.str (Uk x)) A:=by
 obtain⟨cl,c⟩:=x
 simp only[cD]at h
 have h1:=Qy h.1
 have h2:=JP h.2
 have htx:Uk ⟨cl,c⟩=cl++[32,61,32]++Lib.itoa c:=rfl
 rw[htx]
 refine Q4 l121 (fE rfl) ?_
 simp only[An,Clear.cells,Q1,seval]
 intro d hd
 refine ZA (Zb (by simp;omega)) ?_
 simp only[Q1,seval]
 refine Q3 (M3 G hG c _ h.2) ?_
 simp only[QM,Q1,seval]
 refine ZA (Zb (by simp;omega)) ?_
 simp only[Q1,seval]
 exact Qc (by simp) ((QU.refl A).set hd (by simp))
theorem k118 (hG:Gl G)(x:Assign)(A:Q2)(h:(Qf x.name&&JA x.val)=true)(hs:J1 x.val=true)(hk:Of x.val)(hl:(Qz x.val).length≤140737488355328):QB Tryz.prog G 118 [.agg x.cells] A (.str (U5 x)) A:=by
 obtain⟨n,v⟩:=x
 simp only[cD]at h
 have h1:=Qy h.1
 have htx:U5 ⟨n,v⟩=n++[32,61,32]++Qz v:=rfl
 rw[htx]
 simp only at hs hk hl
 have h114:=fun A=>Cn G hG v (A:=A) h.2 hs hk.1 hk.2 hl
 obtain⟨k,m,i,xs⟩:=v
 have hexp:Zr (.mk k m i xs)=.agg [i64 k,.str m,i64 i,.slice 4 xs.length (Exp.cellsL xs) none]:=rfl
 refine Q4 l118 (fE rfl) ?_
 simp only[Ap,Assign.cells,Exp.cells,Q1,seval]
 intro d hd
 refine ZA (Zb (by simp;omega)) ?_
 simp only[Q1,seval]
 rw[←hexp]
 refine Q3 (h114 _) ?_
 simp only[QM,Q1,seval]
 refine ZA (Zb (by simp;omega)) ?_
 simp only[Q1,seval]
 exact Qc (by simp) ((QU.refl A).set hd (by simp))
theorem W2 {A:Q2}{q d:Nat}{s w t:Bs}{is:Bool}{fn:FuncId}(hq:A q=some (.cells [.str s]))(hf:is=true→QB Tryz.prog G fn [.ptr d 0] A (.str t) A)(hl:is=true→s.length+w.length+t.length≤9223372036854775800):
 QB Tryz.prog G 110 [bo is,.str w,.func (.func fn) [] [.ptr d 0],.ptr q 0] A ZD (A.upd q (some (.cells [.str (s++Z9 is w t)]))):=by
 refine Q4 l110 (fE rfl) ?_
 cases is with
 |false=>
  simp only[GI,QR,Q1,seval]
  exact Qv rfl (UY (by rw[show s++Z9 false w t=s by simp [Z9],←hq,YJ rfl]))
 |true=>
  have hl:=hl rfl
  simp only[GI,hq,Q1,seval]
  refine ZA (Zb (by simp;omega)) ?_
  simp only[Q1,seval]
  refine ZA (Zb (by simp;omega)) ?_
  simp only[Q1,seval]
  refine Q3 (hf rfl) ?_
  simp only[hq,QM,Q1,seval]
  refine ZA (Zb (by simp;omega)) ?_
  simp only[Q1,seval]
  refine ZA (Zb (by simp;omega)) ?_
  simp only[hq,QM,QR,Q1,seval]
  exact Qv rfl (UY (by simp [Z9]))
end
theorem Ou {l:Nat}{k:Int}{t:Bs}:(Je l k t).length≤t.length+2:=by
 unfold Je;split <;> simp
theorem Hs {sep:Bs}:∀l:List Bs,(Lib.joinTail sep l).length=(l.map fun t=>t.length+sep.length).sum
 |[]=>rfl
 |a::l=>by
  have:=Hs (sep:=sep) l
  simp only[Lib.joinTail,cJ,List.flatten_cons,cC,List.sum_cons]at this⊢
  omega
theorem Wx {sep:Bs}{l:List Bs}:(Lib.join l sep).length≤(l.map fun t=>t.length+sep.length).sum:=by
 cases l with
 |nil=>simp [Lib.join_nil]
 |cons a l=>
  rw[Lib.join_cons,cC,Hs]
  simp only[cJ,List.sum_cons];omega
theorem Vz {α:Type}{f g:α→Nat}:∀{l:List α},(∀x∈l,f x≤g x)→(l.map f).sum≤(l.map g).sum
 |[],_=>fG _
 |a::l,h=>by
  have h1:=h a (dO ..)
  have h2:=Vz fun x hx=>h x (dI a hx)
  simp only[cJ,List.sum_cons];omega
theorem YV {α:Type}{c:Nat}:∀l:List α,(l.map fun _=>c).sum=l.length*c
 |[]=>by simp
 |a::l=>by
  have:=YV (c:=c) l
  simp only[cJ,List.sum_cons,cE,Nat.add_mul];omega
theorem H8 {α:Type}{f:α→Nat}{c:Nat}:∀l:List α,(l.map fun x=>c*f x).sum=c*(l.map f).sum
 |[]=>rfl
 |a::l=>by
  have:=H8 (f:=f) (c:=c) l
  simp only[cJ,List.sum_cons,Nat.mul_add];omega
theorem X4 {α β:Type}{f:α→List β}:∀l:List α,(l.flatMap f).length=(l.map fun x=>(f x).length).sum
 |[]=>rfl
 |a::l=>by
  have:=X4 (f:=f) l
  simp only[dD,cC,cJ,List.sum_cons];omega
theorem Dx {c:Prop}[Decidable c]{a b n:Nat}(ha:a≤n)(hb:b≤n):(if c then a else b)≤n:=by
 by_cases h:c
 ·rw[fC h];exact ha
 ·rw[fD h];exact hb
theorem Fk (k:Int):(Ji k).1.length≤2:=by
 simp only[Ji,apply_ite Prod.fst,apply_ite List.length,cE,cL]
 repeat' (first|refine Dx ?_ ?_|decide)
theorem RV:∀(x:Exp),JA x=true→(Qz x).length+4≤64*Vg x:=by
 intro x
 induction hn:SizeOf.sizeOf x using Nat.strongRecOn generalizing x with
 |_ sz ih=>
 intro hwf
 obtain⟨k,n,i,xs⟩:=x
 simp only[JA,cD]at hwf
 obtain⟨hhd,hxs⟩:=hwf
 obtain⟨hin,har⟩:=MA hhd
 have hT:∀y∈xs,(Qz y).length+4≤64*Vg y:=fun y hy=>ih _ (by
  have:=cY hy
  rw[←hn];simp only[Exp.mk.sizeOf_spec];omega) y rfl (by rw[Kz]at hxs;exact cH.1 hxs y hy)
 have hname:(k=2∨k=19)→n.length≤16:=fun h=>by
  simp only[Vf,cD]at hhd
  have:=hhd.2
  rw[fC h]at this
  exact Qy this
 rw[UL,Qz,IL]
 by_cases h1:k=1
 ·have:=JP hin
  rw[show Vu k n i xs (xs.map Qz)=Lib.itoa i by simp [Vu,h1]];omega
 by_cases h2:k=2
 ·have:=hname (.inl h2)
  rw[show Vu k n i xs (xs.map Qz)=n by simp [Vu,h2]];omega
 by_cases h3:k=3
 ·obtain⟨x0,rfl⟩:=fZ.1 (har 1 (by simp [Zu,h3]))
  rw[show Vu k n i [x0] ([x0].map Qz)=[45]++Je (if x0.kind=1∧0≤x0.int then 8 else 6) x0.kind (Qz x0)by simp [Vu,h3]]
  have:=hT x0 (by simp)
  have:=Ou (l:=if x0.kind=1∧0≤x0.int then 8 else 6) (k:=x0.kind) (t:=Qz x0)
  simp only[cC,cQ,JR,Jz];omega
 by_cases h4:k=4
 ·obtain⟨x0,rfl⟩:=fZ.1 (har 1 (by simp [Zu,h4]))
  rw[show Vu k n i [x0] ([x0].map Qz)=[33]++Je 6 x0.kind (Qz x0)by simp [Vu,h4]]
  have:=hT x0 (by simp)
  have:=Ou (l:=6) (k:=x0.kind) (t:=Qz x0)
  simp only[cC,cQ,JR,Jz];omega
 by_cases h18:k=18
 ·obtain⟨x0,x1,x2,rfl⟩:∃a b c,xs=[a,b,c]:=by
   match xs,har 3 (by simp [Zu,h18])with
   |[a,b,c],_=>exact⟨_,_,_,rfl⟩
  rw[show Vu k n i [x0,x1,x2] ([x0,x1,x2].map Qz)=Je 1 x0.kind (Qz x0)++[32,63,32]++Qz x1++[32,58,32]++Qz x2 by simp [Vu,h18]]
  have:=hT x0 (by simp);have:=hT x1 (by simp);have:=hT x2 (by simp)
  have:=Ou (l:=1) (k:=x0.kind) (t:=Qz x0)
  simp only[cC,cE,cL,JR,Jz];omega
 by_cases h19:k=19
 ·rw[show Vu k n i xs (xs.map Qz)=n++[40]++Lib.join (xs.map Qz) [44,32]++[41]by simp [Vu,h19]]
  have:=hname (.inr h19)
  have h5:=Wx (sep:=[44,32]) (l:=xs.map Qz)
  have h6:(xs.map fun x=>(Qz x).length+2).sum≤(xs.map fun x=>64*Vg x).sum:=Vz fun x hx=>by have:=hT x hx;omega
  rw[H8]at h6
  rw[List.map_map]at h5
  have h7:(xs.map ((fun t:Bs=>t.length+[(44:UInt8),32].length)∘Qz)).sum=(xs.map fun x=>(Qz x).length+2).sum:=rfl
  simp only[cC,cQ,J8]
  omega
 ·have h517:5≤k∧k≤17:=Decidable.byContradiction fun e=>by
   have:Zu k=none:=by simp only[Zu,h1,h2,h3,h4,h18,h19,e,or_self,if_false]
   simp [Vf,this]at hhd
  obtain⟨x0,x1,rfl⟩:∃a b,xs=[a,b]:=by
   match xs,har 2 (by simp only[Zu,h1,h2,h3,h4,h517,or_self,if_false,and_self,if_true])with
   |[a,b],_=>exact⟨_,_,rfl⟩
  rw[show Vu k n i [x0,x1] ([x0,x1].map Qz)=Je (if J4 k=3 then 4 else J4 k) x0.kind (Qz x0)++[32]++(Ji k).1++[32]++Je (J4 k+1) x1.kind (Qz x1)by simp [Vu,h1,h2,h3,h4,h18,h19]]
  have:=hT x0 (by simp);have:=hT x1 (by simp)
  have:=Ou (l:=if J4 k=3 then 4 else J4 k) (k:=x0.kind) (t:=Qz x0)
  have:=Ou (l:=J4 k+1) (k:=x1.kind) (t:=Qz x1)
  have:=Fk k
  simp only[cC,cE,cL,JR,Jz];omega
theorem KQ {x:Exp}(h:JA x=true)(hs:J1 x=true):(Qz x).length≤25600:=by
 have:=RV x h
 simp only[J1,Siz.small,cD,dZ]at hs
 have:Vg x≤400:=hs.1.1
 omega
theorem Ep {t:Test}(h:Vj t=true):(XL t).length≤31:=by
 simp only[Vj,cD]at h
 have:=Qy h.1
 have:=JP h.2
 simp only[XL,cC]
 split <;> split <;> simp <;> omega
theorem KA {l:List Test}(h:l.all Vj=true)(hl:l.length≤16):(YQ l).length≤600:=by
 have h1:=Wx (sep:=[32,38,38,32]) (l:=l.map XL)
 rw[List.map_map]at h1
 have h2:(l.map ((fun t:Bs=>t.length+[(32:UInt8),38,38,32].length)∘XL)).sum≤(l.map fun _=>35).sum:=Vz fun x hx=>by
  have:=Ep (cH.1 h x hx)
  simp only[Function.comp,cE,cL];omega
 rw[YV]at h2
 unfold YQ;omega
theorem VE {is:Bool}{w t:Bs}:(Z9 is w t).length≤w.length+t.length+2:=by
 unfold Z9;split <;> simp <;> omega
theorem To {x:Edge}(h:Ys x=true)(hf:Xi x=true):(U6 x).length≤1000000:=by
 simp only[Ys,cD]at h
 simp only[Xi,cD,dZ]at hf
 obtain⟨⟨⟨⟨⟨⟨⟨⟨⟨a1,a2⟩,a3⟩,a4⟩,a5⟩,a6⟩,a7⟩,a8⟩,a9⟩,a10⟩:=h
 obtain⟨⟨⟨⟨b1,b2⟩,b3⟩,b4⟩,b5⟩:=hf
 have c1:=Qy a1;have c2:=Qy a2
 have c3:=KA a3 b1
 have c4:(Z9 (!(isNone x.cond)) JS (Qz x.cond)).length≤25604:=by
  cases hn:isNone x.cond with
  |true=>simp [Z9]
  |false=>
   rw[hn,cZ]at a4 b2
   have:=KQ a4 b2
   simp [Z9,JS];omega
 have c5:x.chan.length≤16:=by
  cases hc:x.chan with
  |nil=>simp
  |cons a b=>
   rw[hc]at a6
   simp only[List.isEmpty_cons,cZ]at a6
   exact Qy a6
 have c6:(Lib.join (x.sets.map U5) [44,32]).length≤500000:=by
  have h1:=Wx (sep:=[44,32]) (l:=x.sets.map U5)
  rw[List.map_map]at h1
  have h2:(x.sets.map ((fun t:Bs=>t.length+[(44:UInt8),32].length)∘U5)).sum≤(x.sets.map fun _=>25625).sum:=Vz fun y hy=>by
   have h3:=cH.1 a7 y hy
   simp only[cD]at h3
   have h4:=KQ h3.2 (cH.1 b4 y hy)
   have h5:=Qy h3.1
   simp only[Function.comp,U5,cC,cE,cL];omega
  rw[YV]at h2;omega
 have c7:(Lib.join (x.clears.map Uk) [44,32]).length≤600:=by
  have h1:=Wx (sep:=[44,32]) (l:=x.clears.map Uk)
  rw[List.map_map]at h1
  have h2:(x.clears.map ((fun t:Bs=>t.length+[(44:UInt8),32].length)∘Uk)).sum≤(x.clears.map fun _=>32).sum:=Vz fun y hy=>by
   have h3:=cH.1 a8 y hy
   simp only[cD]at h3
   have h4:=JP h3.2
   have h5:=Qy h3.1
   simp only[Function.comp,Uk,cC,cE,cL];omega
  rw[YV]at h2;omega
 have c8:=JP a9;have c9:=JP a10
 have d1:=VE (is:= !x.tests.isEmpty) (w:=YL) (t:=YQ x.tests)
 have d2:=VE (is:= !x.chan.isEmpty) (w:=Yj) (t:=x.chan++(if x.send then[33]else[63]))
 have d3:=VE (is:= !x.sets.isEmpty) (w:=U2) (t:=Lib.join (x.sets.map U5) [44,32])
 have d4:=VE (is:= !x.clears.isEmpty) (w:=Jg) (t:=Lib.join (x.clears.map Uk) [44,32])
 have d5:=VE (is:=x.cost !=0) (w:=JH) (t:=Lib.itoa x.cost)
 have d6:=VE (is:=x.kind !=0) (w:=JC) (t:=Lib.itoa x.kind)
 have d7:(if x.send then[(33:UInt8)]else[63]).length=1:=by split <;> rfl
 simp only[cC,d7]at d2
 have z1:YL.length=4:=rfl
 have z2:Yj.length=4:=rfl
 have z3:U2.length=2:=rfl
 have z4:Jg.length=5:=rfl
 have z5:JH.length=4:=rfl
 have z6:JC.length=4:=rfl
 have z7:Yb.length=4:=rfl
 simp only[U6,cC,cE,cL]
 omega
section
variable (G:Nat→Option (List AV))
theorem k46 (hG:Gl G)(l:Loc)(A:Q2)(h:VG l=true)(hl:l.inv.length≤16):QB Tryz.prog G 46 [.agg l.cells] A (.str (XW l)) A:=by
 obtain⟨n,k,iv,r⟩:=l
 simp only[VG,cD,dZ]at h
 simp only at hl
 obtain⟨⟨⟨h1,h2⟩,h3⟩,h4⟩:=h
 have n1:=Qy h1
 have n2:=KA h3 hl
 have n3:=JP h4
 have hk:k=0∨k=1∨k=2:=by omega
 have htx:XW ⟨n,k,iv,r⟩=[9]++YR++[32]++n++Xo k++Z9 (!iv.isEmpty) Uo (YQ iv)++Z9 (r !=0) YX (Lib.itoa r)++[59,10]:=rfl
 rw[htx]
 refine Q4 l46 (fE rfl) ?_
 unfold C46
 refine Qb (fun env ds B=>∃d,env 1=.ptr d 0∧ds=[]∧A d=none∧B=A.upd d (some (.cells [.str n,i64 k,.slice 4 iv.length (iv.flatMap Test.cells) none,i64 r]))) ?_ ?_
 ·simp only[Loc.cells,Qr,Q1,seval]
  intro d hd
  exact⟨d,rfl,hd,rfl⟩
 rintro env ds B ⟨d,e1,rfl,hd,rfl⟩
 have hO:=(QU.refl A).set hd (o:=some (.cells [.str n,i64 k,.slice 4 iv.length (iv.flatMap Test.cells) none,i64 r])) (by simp)
 have hdB:(A.upd d (some (.cells [.str n,i64 k,.slice 4 iv.length (iv.flatMap Test.cells) none,i64 r]))) d=_:=Q0 ..
 generalize A.upd d (some (.cells [.str n,i64 k,.slice 4 iv.length (iv.flatMap Test.cells) none,i64 r]))=B at*
 refine Qb (fun env ds B'=>env 1=.ptr d 0∧env 3=.str ([9]++YR++[32]++n++Xo k)∧ds=[]∧B=B') ?_ ?_
 ·simp only[e1,hdB,Q1,seval]
  refine ZA (Zb (by simp;omega)) ?_
  rcases hk with rfl|rfl|rfl
  ·simp only[e1,hdB,Q1,seval]
   refine ZA (Zb (by simp;omega)) ?_
   simp only[e1,Q1,seval]
   simp [Xo,YR]
  ·simp only[e1,hdB,Q1,seval]
   refine ZA (Zb (by simp;omega)) ?_
   simp only[e1,Q1,seval]
   simp [Xo,Zl,YR]
  ·simp only[e1,hdB,Q1,seval]
   refine ZA (Zb (by simp;omega)) ?_
   simp only[e1,Q1,seval]
   simp [Xo,YO,YR]
 rintro env ds _ ⟨e1,e3,rfl,rfl⟩
 have n4:(Xo k).length≤10:=by rcases hk with rfl|rfl|rfl <;> simp [Xo,Zl,YO]
 generalize hz:[9]++YR++[32]++n++Xo k=z at*
 have hzl:z.length≤40:=by rw[←hz];simp [YR];omega
 refine Qb (fun env ds B'=>env 1=.ptr d 0∧env 3=.str (z++Z9 (!iv.isEmpty) Uo (YQ iv))∧ds=[]∧B=B') ?_ ?_
 ·simp only[e1,e3,hdB,Q1,seval]
  refine⟨fun hp=> ?_,fun hp=> ?_⟩
  ·have:iv.isEmpty=false:=by cases iv with|nil=>simp at hp|cons=>rfl
   refine Q3 (Cp G hG iv _ h3 (by omega) (by omega)) ?_
   simp only[e1,e3,Q1,seval]
   refine⟨by omega,by omega,by simp [Z9,this,Uo]⟩
  ·have:iv.isEmpty=true:=by cases iv with|nil=>rfl|cons a b=>exact absurd (by simp) hp
   simp [Z9,this]
 rintro env ds _ ⟨e1,e3,rfl,rfl⟩
 have n5:=VE (is:= !iv.isEmpty) (w:=Uo) (t:=YQ iv)
 have n6:Uo.length=3:=rfl
 generalize hz2:z++Z9 (!iv.isEmpty) Uo (YQ iv)=z2 at*
 have hzl2:z2.length≤700:=by rw[←hz2,cC];omega
 refine Qb (fun env ds B'=>env 3=.str (z2++Z9 (r !=0) YX (Lib.itoa r))∧ds=[]∧B=B') ?_ ?_
 ·simp only[e1,e3,hdB,Q1,seval]
  refine⟨fun hp=> ?_,fun hp=> ?_⟩
  ·simp [Z9,hp]
  ·refine Q3 (M3 G hG r _ h4) ?_
   simp only[e1,e3,Q1,seval]
   refine⟨by omega,by omega,by simp [Z9,hp,YX]⟩
 rintro env ds _ ⟨e3,rfl,rfl⟩
 have n7:=VE (is:=r !=0) (w:=YX) (t:=Lib.itoa r)
 have n8:YX.length=4:=rfl
 simp only[e3,Q1,seval]
 refine⟨by simp;omega,Qc rfl hO⟩
theorem k111 (hG:Gl G){A:Q2}{d:Nat}{src dst:Bs}{ts:List Test}{ck ci cst kd:Int}{cm ch:Bs}{cxs:List Exp}{sn:Bool}{ss:List Assign}{cs:List Clear}(hd:A d=some (.cells [.str src,.str dst,.slice 4 ts.length (ts.flatMap Test.cells) none,i64 ck,.str cm,i64 ci,.slice 4 cxs.length (Exp.cellsL cxs) none,.str ch,bo sn,.slice 5 ss.length (ss.flatMap Assign.cells) none,.slice 2 cs.length (cs.flatMap Clear.cells) none,i64 cst,i64 kd]))(h:ts.all Vj=true)(hl:ts.length≤16):QB Tryz.prog G 111 [.ptr d 0] A (.str (YQ ts)) A:=by
 refine Q4 l111 (fE rfl) ?_
 simp only[Aw,hd,Q1,seval]
 refine Q3 (Cp G hG ts _ h (by omega) (by have:=KA h hl;omega)) ?_
 simp only[Q1,seval]
 exact Qc rfl (.refl _)
theorem k113 (hG:Gl G){A:Q2}{d:Nat}{src dst:Bs}{ts:List Test}{ck ci cst kd:Int}{cm ch:Bs}{cxs:List Exp}{sn:Bool}{ss:List Assign}{cs:List Clear}(hd:A d=some (.cells [.str src,.str dst,.slice 4 ts.length (ts.flatMap Test.cells) none,i64 ck,.str cm,i64 ci,.slice 4 cxs.length (Exp.cellsL cxs) none,.str ch,bo sn,.slice 5 ss.length (ss.flatMap Assign.cells) none,.slice 2 cs.length (cs.flatMap Clear.cells) none,i64 cst,i64 kd]))(hw:JA (.mk ck cm ci cxs)=true)(hs:J1 (.mk ck cm ci cxs)=true)(hk:Of (.mk ck cm ci cxs)):QB Tryz.prog G 113 [.ptr d 0] A (.str (Qz (.mk ck cm ci cxs))) A:=by
 refine Q4 l113 (fE rfl) ?_
 simp only[Au,hd,Q1,seval]
 have hexp:Zr (.mk ck cm ci cxs)=.agg [i64 ck,.str cm,i64 ci,.slice 4 cxs.length (Exp.cellsL cxs) none]:=rfl
 rw[←hexp]
 refine Q3 (Cn G hG _ hw hs hk.1 hk.2 (by have:=KQ hw hs;omega)) ?_
 simp only[Q1,seval]
 exact Qc rfl (.refl _)
theorem k115 (hG:Gl G){A:Q2}{d:Nat}{src dst:Bs}{ts:List Test}{ck ci cst kd:Int}{cm ch:Bs}{cxs:List Exp}{sn:Bool}{ss:List Assign}{cs:List Clear}(hd:A d=some (.cells [.str src,.str dst,.slice 4 ts.length (ts.flatMap Test.cells) none,i64 ck,.str cm,i64 ci,.slice 4 cxs.length (Exp.cellsL cxs) none,.str ch,bo sn,.slice 5 ss.length (ss.flatMap Assign.cells) none,.slice 2 cs.length (cs.flatMap Clear.cells) none,i64 cst,i64 kd]))(hl:ch.length≤16):QB Tryz.prog G 115 [.ptr d 0] A (.str (ch++(if sn then[33]else[63]))) A:=by
 refine Q4 l115 (fE rfl) ?_
 simp only[Ar,hd,Q1,seval]
 cases sn with
 |true=>
  simp only[hd,Q1,seval]
  exact⟨by omega,Qc rfl (.refl _)⟩
 |false=>
  simp only[hd,Q1,seval]
  exact⟨by omega,Qc rfl (.refl _)⟩
theorem k116 (hG:Gl G){A:Q2}{d:Nat}{src dst:Bs}{ts:List Test}{ck ci cst kd:Int}{cm ch:Bs}{cxs:List Exp}{sn:Bool}{ss:List Assign}{cs:List Clear}(hd:A d=some (.cells [.str src,.str dst,.slice 4 ts.length (ts.flatMap Test.cells) none,i64 ck,.str cm,i64 ci,.slice 4 cxs.length (Exp.cellsL cxs) none,.str ch,bo sn,.slice 5 ss.length (ss.flatMap Assign.cells) none,.slice 2 cs.length (cs.flatMap Clear.cells) none,i64 cst,i64 kd]))(h:ss.all (fun a=>Qf a.name&&JA a.val)=true)(hs:ss.all (fun a=>J1 a.val)=true)(hk:∀a∈ss,Of a.val)(hn:ss.length≤16)(hl:(Lib.join (ss.map U5) [44,32]).length≤140737488355328):QB Tryz.prog G 116 [.ptr d 0] A (.str (Lib.join (ss.map U5) [44,32])) A:=by
 refine Q4 l116 (fE rfl) ?_
 simp only[Aq,hd,Q1,seval]
 refine Q3 (kJ G l117 rfl (enc:=Assign.cells) (tx:=U5) Assign.cells_len (fun a=>by obtain⟨n,v⟩:=a;obtain⟨k,m,i,xs⟩:=v;rfl) rfl rfl rfl (by omega) hl fun x hx A=> ?_) ?_
 ·have h1:=cH.1 h x hx
  have h2:=cH.1 hs x hx
  simp only[cD]at h1
  exact k118 G hG x A (by simp [h1.1,h1.2]) h2 (hk x hx) (by have:=KQ h1.2 h2;omega)
 simp only[Q1,seval]
 exact Qc rfl (.refl _)
theorem k119 (hG:Gl G){A:Q2}{d:Nat}{src dst:Bs}{ts:List Test}{ck ci cst kd:Int}{cm ch:Bs}{cxs:List Exp}{sn:Bool}{ss:List Assign}{cs:List Clear}(hd:A d=some (.cells [.str src,.str dst,.slice 4 ts.length (ts.flatMap Test.cells) none,i64 ck,.str cm,i64 ci,.slice 4 cxs.length (Exp.cellsL cxs) none,.str ch,bo sn,.slice 5 ss.length (ss.flatMap Assign.cells) none,.slice 2 cs.length (cs.flatMap Clear.cells) none,i64 cst,i64 kd]))(h:cs.all (fun c=>Qf c.clock&&ZQ c.tv)=true)(hn:cs.length≤16)(hl:(Lib.join (cs.map Uk) [44,32]).length≤140737488355328):QB Tryz.prog G 119 [.ptr d 0] A (.str (Lib.join (cs.map Uk) [44,32])) A:=by
 refine Q4 l119 (fE rfl) ?_
 simp only[Ao,hd,Q1,seval]
 refine Q3 (kJ G l120 rfl (enc:=Clear.cells) (tx:=Uk) (fun _=>rfl) (fun _=>rfl) rfl rfl rfl (by omega) hl fun x hx A=>k121 G hG x A (cH.1 h x hx)) ?_
 simp only[Q1,seval]
 exact Qc rfl (.refl _)
theorem k122 (hG:Gl G){A:Q2}{d:Nat}{src dst:Bs}{ts:List Test}{ck ci cst kd:Int}{cm ch:Bs}{cxs:List Exp}{sn:Bool}{ss:List Assign}{cs:List Clear}(hd:A d=some (.cells [.str src,.str dst,.slice 4 ts.length (ts.flatMap Test.cells) none,i64 ck,.str cm,i64 ci,.slice 4 cxs.length (Exp.cellsL cxs) none,.str ch,bo sn,.slice 5 ss.length (ss.flatMap Assign.cells) none,.slice 2 cs.length (cs.flatMap Clear.cells) none,i64 cst,i64 kd]))(h:ZQ cst=true):QB Tryz.prog G 122 [.ptr d 0] A (.str (Lib.itoa cst)) A:=by
 refine Q4 l122 (fE rfl) ?_
 simp only[Am,hd,Q1,seval]
 refine Q3 (M3 G hG _ _ h) ?_
 simp only[Q1,seval]
 exact Qc rfl (.refl _)
theorem k123 (hG:Gl G){A:Q2}{d:Nat}{src dst:Bs}{ts:List Test}{ck ci cst kd:Int}{cm ch:Bs}{cxs:List Exp}{sn:Bool}{ss:List Assign}{cs:List Clear}(hd:A d=some (.cells [.str src,.str dst,.slice 4 ts.length (ts.flatMap Test.cells) none,i64 ck,.str cm,i64 ci,.slice 4 cxs.length (Exp.cellsL cxs) none,.str ch,bo sn,.slice 5 ss.length (ss.flatMap Assign.cells) none,.slice 2 cs.length (cs.flatMap Clear.cells) none,i64 cst,i64 kd]))(h:ZQ kd=true):QB Tryz.prog G 123 [.ptr d 0] A (.str (Lib.itoa kd)) A:=by
 refine Q4 l123 (fE rfl) ?_
 simp only[Al,hd,Q1,seval]
 refine Q3 (M3 G hG _ _ h) ?_
 simp only[Q1,seval]
 exact Qc rfl (.refl _)
theorem Ku {is:Bool}{w t:Bs}(h:is=true):w.length+t.length≤(Z9 is w t).length:=by
 subst h;simp [Z9];omega
theorem k48 (hG:Gl G)(x:Edge)(A:Q2)(h:Ys x=true)(hf:Xi x=true)(hlt:I3 x):QB Tryz.prog G 48 [.agg x.cells] A (.str (U6 x)) A:=by
 have hl:=To h hf
 obtain⟨src,dst,ts,co,ch,sn,ss,cs,cst,kd⟩:=x
 obtain⟨ck,cm,ci,cxs⟩:=co
 simp only[Ys,cD]at h
 simp only[Xi,cD,dZ]at hf
 obtain⟨⟨⟨⟨⟨⟨⟨⟨⟨a1,a2⟩,a3⟩,a4⟩,a5⟩,a6⟩,a7⟩,a8⟩,a9⟩,a10⟩:=h
 obtain⟨⟨⟨⟨b1,b2⟩,b3⟩,b4⟩,b5⟩:=hf
 obtain⟨y1,y2,y3,y4,y5,y6,y7,y8,y9,y10⟩:=hlt
 simp only at y5 y8
 have c1:=Qy a1;have c2:=Qy a2
 have c5:ch.length≤16:=by
  cases ch with
  |nil=>simp
  |cons a b=>
   simp only[List.isEmpty_cons,cZ]at a6
   exact Qy a6
 have htx:U6 ⟨src,dst,ts,.mk ck cm ci cxs,ch,sn,ss,cs,cst,kd⟩=[9]++Yb++[32]++src++[32,45,62,32]++dst++Z9 (!ts.isEmpty) YL (YQ ts)++Z9 (!(isNone (.mk ck cm ci cxs))) JS (Qz (.mk ck cm ci cxs))++Z9 (!ch.isEmpty) Yj (ch++(if sn then[33]else[63]))++
  Z9 (!ss.isEmpty) U2 (Lib.join (ss.map U5) [44,32])++Z9 (!cs.isEmpty) Jg (Lib.join (cs.map Uk) [44,32])++Z9 (cst !=0) JH (Lib.itoa cst)++Z9 (kd !=0) JC (Lib.itoa kd)++[59,10]:=rfl
 rw[htx]at hl⊢
 have m1:=VE (is:= !ss.isEmpty) (w:=U2) (t:=Lib.join (ss.map U5) [44,32])
 have w1:YL.length=4:=rfl
 have w2:Yj.length=4:=rfl
 have w3:U2.length=2:=rfl
 have w4:Jg.length=5:=rfl
 have w5:JH.length=4:=rfl
 have w6:JC.length=4:=rfl
 have w7:JS.length=2:=rfl
 have lT:=KA a3 b1
 have lI:=JP a9;have lK:=JP a10
 have lS:(ch++(if sn then[(33:UInt8)]else[63])).length≤17:=by cases sn <;> simp <;> omega
 refine Q4 l48 (fE rfl) ?_
 unfold C48
 refine Qb (fun env ds B=>∃d,env 1=.ptr d 0∧ds=[]∧A d=none∧B=A.upd d (some (.cells [.str src,.str dst,.slice 4 ts.length (ts.flatMap Test.cells) none,i64 ck,.str cm,i64 ci,.slice 4 cxs.length (Exp.cellsL cxs) none,.str ch,bo sn,.slice 5 ss.length (ss.flatMap Assign.cells) none,.slice 2 cs.length (cs.flatMap Clear.cells) none,i64 cst,i64 kd]))) ?_ ?_
 ·simp only[Edge.cells,Exp.cells,Qr,Q1,seval]
  intro d hd
  exact⟨d,rfl,hd,rfl⟩
 rintro env ds B ⟨d,e1,rfl,hd,rfl⟩
 have hdA:(A.upd d (some (.cells [.str src,.str dst,.slice 4 ts.length (ts.flatMap Test.cells) none,i64 ck,.str cm,i64 ci,.slice 4 cxs.length (Exp.cellsL cxs) none,.str ch,bo sn,.slice 5 ss.length (ss.flatMap Assign.cells) none,.slice 2 cs.length (cs.flatMap Clear.cells) none,i64 cst,i64 kd]))) d=_:=Q0 ..
 have unO:∀B,QU (A.upd d (some (.cells [.str src,.str dst,.slice 4 ts.length (ts.flatMap Test.cells) none,i64 ck,.str cm,i64 ci,.slice 4 cxs.length (Exp.cellsL cxs) none,.str ch,bo sn,.slice 5 ss.length (ss.flatMap Assign.cells) none,.slice 2 cs.length (cs.flatMap Clear.cells) none,i64 cst,i64 kd]))) B→QU A B:=fun B h=>h.unset hd
 generalize A.upd d (some (.cells [.str src,.str dst,.slice 4 ts.length (ts.flatMap Test.cells) none,i64 ck,.str cm,i64 ci,.slice 4 cxs.length (Exp.cellsL cxs) none,.str ch,bo sn,.slice 5 ss.length (ss.flatMap Assign.cells) none,.slice 2 cs.length (cs.flatMap Clear.cells) none,i64 cst,i64 kd]))=A1 at*
 refine Qb (fun env ds B=>∃q,env 1=.ptr d 0∧env 3=.ptr q 0∧ds=[]∧A1 q=none∧B=A1.upd q (some (.cells [.str ([9]++Yb++[32]++src++[32,45,62,32]++dst)]))) ?_ ?_
 ·simp only[e1,hdA,Q1,seval]
  exact⟨by omega,by omega,by simp;omega,fun q hq=>⟨q,rfl,hq,by simp [Yb]⟩⟩
 rintro env ds B ⟨q,e1,e3,rfl,hq,rfl⟩
 have hdq:=Q6 hdA hq
 generalize hS0:[9]++Yb++[32]++src++[32,45,62,32]++dst=S0 at*
 refine Qb (fun env ds B=>env 1=.ptr d 0∧env 3=.ptr q 0∧env 4=.func (.func 110) [] [.ptr q 0]∧ds=[]∧B=A1.upd q (some (.cells [.str S0]))) ?_ ?_
 ·simp only[e1,e3,Q1,seval]
 rintro env ds B ⟨e1,e3,e4,rfl,rfl⟩
 have hdB:=(Q8 A1 q (some (.cells [.str S0])) hdq).trans hdA
 have hll:S0.length≤1000000∧(Z9 (!ts.isEmpty) YL (YQ ts)).length≤1000000:=by simp only[cC]at hl;constructor <;> omega
 have hlt0:(!ts.isEmpty)=true→S0.length+YL.length+(YQ ts).length≤10000000:=fun e=>by have:=Ku (w:=YL) (t:=YQ ts) e;omega
 refine Qb (fun env ds B=>env 1=.ptr d 0∧env 3=.ptr q 0∧env 4=.func (.func 110) [] [.ptr q 0]∧ds=[]∧B=A1.upd q (some (.cells [.str (S0++Z9 (!ts.isEmpty) YL (YQ ts))]))) ?_ ?_
 ·simp only[e1,e3,e4,hdB,Q1,seval]
  refine⟨fun hp=> ?_,fun hp=> ?_⟩
  ·have hb:(!ts.isEmpty)=true:=by cases ts with|nil=>simp at hp|cons=>rfl
   have hl0:=hlt0 hb
   rw[hb]
   refine Q3 (W2 G (is:=true) (w:=YL) (t:=(YQ ts)) (fn:=111) (Q0 ..) (fun _=>k111 G hG hdB a3 b1) fun _=>by omega) ?_
   simp only[e1,e3,e4,QY,Q1,seval]
  ·have hb:(!ts.isEmpty)=false:=by cases ts with|nil=>rfl|cons a b=>exact absurd (by simp) hp
   rw[hb]
   refine Q3 (W2 G (is:=false) (w:=YL) (t:=(YQ ts)) (fn:=111) (Q0 ..) (fun h=>by cases h) fun h=>by cases h) ?_
   simp only[e1,e3,e4,QY,Q1,seval]
 generalize hS1:S0++Z9 (!ts.isEmpty) YL (YQ ts)=S1 at*
 rintro env ds B ⟨e1,e3,e4,rfl,rfl⟩
 have hdB:=(Q8 A1 q (some (.cells [.str S1])) hdq).trans hdA
 have hll:S1.length≤1000000∧(Z9 (!(isNone (.mk ck cm ci cxs))) JS (Qz (.mk ck cm ci cxs))).length≤1000000:=by simp only[cC]at hl;constructor <;> omega
 have hlt1:(!(isNone (.mk ck cm ci cxs)))=true→S1.length+JS.length+(Qz (.mk ck cm ci cxs)).length≤10000000:=fun e=>by have:=Ku (w:=JS) (t:=Qz (.mk ck cm ci cxs)) e;omega
 refine Qb (fun env ds B=>env 1=.ptr d 0∧env 3=.ptr q 0∧env 4=.func (.func 110) [] [.ptr q 0]∧ds=[]∧B=A1.upd q (some (.cells [.str (S1++Z9 (!(isNone (.mk ck cm ci cxs))) JS (Qz (.mk ck cm ci cxs)))]))) ?_ ?_
 ·simp only[e1,e3,e4,hdB,Q1,seval]
  have hexp:Zr (.mk ck cm ci cxs)=.agg [i64 ck,.str cm,i64 ci,.slice 4 cxs.length (Exp.cellsL cxs) none]:=rfl
  rw[←hexp]
  refine Q3 (Co G _) ?_
  cases hnn:isNone (.mk ck cm ci cxs)with
  |true=>
   simp only[e1,e3,e4,hdB,Q1,seval]
   refine Q3 (W2 G (is:=false) (w:=JS) (t:=Qz (.mk ck cm ci cxs)) (fn:=113) (Q0 ..) (fun h=>by cases h) fun h=>by cases h) ?_
   simp only[e1,e3,e4,QY,Q1,seval]
  |false=>
   rw[hnn,cZ]at a4 b2
   have hl0:=hlt1 (by rw[hnn];rfl)
   simp only[e1,e3,e4,hdB,Q1,seval]
   refine Q3 (W2 G (is:=true) (w:=JS) (t:=Qz (.mk ck cm ci cxs)) (fn:=113) (Q0 ..) (fun _=>k113 G hG hdB a4 b2 y5) fun _=>by omega) ?_
   simp only[e1,e3,e4,QY,Q1,seval]
 generalize hS2:S1++Z9 (!(isNone (.mk ck cm ci cxs))) JS (Qz (.mk ck cm ci cxs))=S2 at*
 rintro env ds B ⟨e1,e3,e4,rfl,rfl⟩
 have hdB:=(Q8 A1 q (some (.cells [.str S2])) hdq).trans hdA
 have hll:S2.length≤1000000∧(Z9 (!ch.isEmpty) Yj (ch++(if sn then[33]else[63]))).length≤1000000:=by simp only[cC]at hl;constructor <;> omega
 have hlt2:(!ch.isEmpty)=true→S2.length+Yj.length+(ch++(if sn then[33]else[63])).length≤10000000:=fun e=>by have:=Ku (w:=Yj) (t:=(ch++(if sn then[33]else[63]))) e;omega
 refine Qb (fun env ds B=>env 1=.ptr d 0∧env 3=.ptr q 0∧env 4=.func (.func 110) [] [.ptr q 0]∧ds=[]∧B=A1.upd q (some (.cells [.str (S2++Z9 (!ch.isEmpty) Yj (ch++(if sn then[33]else[63])))]))) ?_ ?_
 ·simp only[e1,e3,e4,hdB,Q1,seval]
  refine⟨fun hp=> ?_,fun hp=> ?_⟩
  ·have hb:(!ch.isEmpty)=false:=by rw[hp];rfl
   rw[hb]
   refine Q3 (W2 G (is:=false) (w:=Yj) (t:=(ch++(if sn then[33]else[63]))) (fn:=115) (Q0 ..) (fun h=>by cases h) fun h=>by cases h) ?_
   simp only[e1,e3,e4,QY,Q1,seval]
  ·have hb:(!ch.isEmpty)=true:=by cases ch with|nil=>exact absurd rfl hp|cons=>rfl
   have hl0:=hlt2 hb
   rw[hb]
   refine Q3 (W2 G (is:=true) (w:=Yj) (t:=(ch++(if sn then[33]else[63]))) (fn:=115) (Q0 ..) (fun _=>k115 G hG hdB c5) fun _=>by omega) ?_
   simp only[e1,e3,e4,QY,Q1,seval]
 generalize hS3:S2++Z9 (!ch.isEmpty) Yj (ch++(if sn then[33]else[63]))=S3 at*
 rintro env ds B ⟨e1,e3,e4,rfl,rfl⟩
 have hdB:=(Q8 A1 q (some (.cells [.str S3])) hdq).trans hdA
 have hll:S3.length≤1000000∧(Z9 (!ss.isEmpty) U2 (Lib.join (ss.map U5) [44,32])).length≤1000000:=by simp only[cC]at hl;constructor <;> omega
 have hlt3:(!ss.isEmpty)=true→S3.length+U2.length+(Lib.join (ss.map U5) [44,32]).length≤10000000:=fun e=>by have:=Ku (w:=U2) (t:=(Lib.join (ss.map U5) [44,32])) e;omega
 refine Qb (fun env ds B=>env 1=.ptr d 0∧env 3=.ptr q 0∧env 4=.func (.func 110) [] [.ptr q 0]∧ds=[]∧B=A1.upd q (some (.cells [.str (S3++Z9 (!ss.isEmpty) U2 (Lib.join (ss.map U5) [44,32]))]))) ?_ ?_
 ·simp only[e1,e3,e4,hdB,Q1,seval]
  refine⟨fun hp=> ?_,fun hp=> ?_⟩
  ·have hb:(!ss.isEmpty)=true:=by cases ss with|nil=>simp at hp|cons=>rfl
   have hl0:=hlt3 hb
   rw[hb]
   refine Q3 (W2 G (is:=true) (w:=U2) (t:=(Lib.join (ss.map U5) [44,32])) (fn:=116) (Q0 ..) (fun _=>k116 G hG hdB a7 b4 (fun a ha=>(y8 a ha).2) b3 (by omega)) fun _=>by omega) ?_
   simp only[e1,e3,e4,QY,Q1,seval]
  ·have hb:(!ss.isEmpty)=false:=by cases ss with|nil=>rfl|cons a b=>exact absurd (by simp) hp
   rw[hb]
   refine Q3 (W2 G (is:=false) (w:=U2) (t:=(Lib.join (ss.map U5) [44,32])) (fn:=116) (Q0 ..) (fun h=>by cases h) fun h=>by cases h) ?_
   simp only[e1,e3,e4,QY,Q1,seval]
 generalize hS4:S3++Z9 (!ss.isEmpty) U2 (Lib.join (ss.map U5) [44,32])=S4 at*
 rintro env ds B ⟨e1,e3,e4,rfl,rfl⟩
 have hdB:=(Q8 A1 q (some (.cells [.str S4])) hdq).trans hdA
 have hll:S4.length≤1000000∧(Z9 (!cs.isEmpty) Jg (Lib.join (cs.map Uk) [44,32])).length≤1000000:=by simp only[cC]at hl;constructor <;> omega
 have hlt4:(!cs.isEmpty)=true→S4.length+Jg.length+(Lib.join (cs.map Uk) [44,32]).length≤10000000:=fun e=>by have:=Ku (w:=Jg) (t:=(Lib.join (cs.map Uk) [44,32])) e;omega
 refine Qb (fun env ds B=>env 1=.ptr d 0∧env 3=.ptr q 0∧env 4=.func (.func 110) [] [.ptr q 0]∧ds=[]∧B=A1.upd q (some (.cells [.str (S4++Z9 (!cs.isEmpty) Jg (Lib.join (cs.map Uk) [44,32]))]))) ?_ ?_
 ·simp only[e1,e3,e4,hdB,Q1,seval]
  refine⟨fun hp=> ?_,fun hp=> ?_⟩
  ·have hb:(!cs.isEmpty)=true:=by cases cs with|nil=>simp at hp|cons=>rfl
   have hl0:=hlt4 hb
   rw[hb]
   refine Q3 (W2 G (is:=true) (w:=Jg) (t:=(Lib.join (cs.map Uk) [44,32])) (fn:=119) (Q0 ..) (fun _=>k119 G hG hdB a8 b5 (by omega)) fun _=>by omega) ?_
   simp only[e1,e3,e4,QY,Q1,seval]
  ·have hb:(!cs.isEmpty)=false:=by cases cs with|nil=>rfl|cons a b=>exact absurd (by simp) hp
   rw[hb]
   refine Q3 (W2 G (is:=false) (w:=Jg) (t:=(Lib.join (cs.map Uk) [44,32])) (fn:=119) (Q0 ..) (fun h=>by cases h) fun h=>by cases h) ?_
   simp only[e1,e3,e4,QY,Q1,seval]
 generalize hS5:S4++Z9 (!cs.isEmpty) Jg (Lib.join (cs.map Uk) [44,32])=S5 at*
 rintro env ds B ⟨e1,e3,e4,rfl,rfl⟩
 have hdB:=(Q8 A1 q (some (.cells [.str S5])) hdq).trans hdA
 have hll:S5.length≤1000000∧(Z9 (cst !=0) JH (Lib.itoa cst)).length≤1000000:=by simp only[cC]at hl;constructor <;> omega
 have hlt5:(cst !=0)=true→S5.length+JH.length+(Lib.itoa cst).length≤10000000:=fun e=>by have:=Ku (w:=JH) (t:=(Lib.itoa cst)) e;omega
 refine Qb (fun env ds B=>env 1=.ptr d 0∧env 3=.ptr q 0∧env 4=.func (.func 110) [] [.ptr q 0]∧ds=[]∧B=A1.upd q (some (.cells [.str (S5++Z9 (cst !=0) JH (Lib.itoa cst))]))) ?_ ?_
 ·simp only[e1,e3,e4,hdB,Q1,seval]
  refine⟨fun hp=> ?_,fun hp=> ?_⟩
  ·have hb:(cst !=0)=false:=by simp [hp]
   rw[hb]
   refine Q3 (W2 G (is:=false) (w:=JH) (t:=(Lib.itoa cst)) (fn:=122) (Q0 ..) (fun h=>by cases h) fun h=>by cases h) ?_
   simp only[e1,e3,e4,QY,Q1,seval]
  ·have hb:(cst !=0)=true:=by simp [hp]
   have hl0:=hlt5 hb
   rw[hb]
   refine Q3 (W2 G (is:=true) (w:=JH) (t:=(Lib.itoa cst)) (fn:=122) (Q0 ..) (fun _=>k122 G hG hdB a9) fun _=>by omega) ?_
   simp only[e1,e3,e4,QY,Q1,seval]
 generalize hS6:S5++Z9 (cst !=0) JH (Lib.itoa cst)=S6 at*
 rintro env ds B ⟨e1,e3,e4,rfl,rfl⟩
 have hdB:=(Q8 A1 q (some (.cells [.str S6])) hdq).trans hdA
 have hll:S6.length≤1000000∧(Z9 (kd !=0) JC (Lib.itoa kd)).length≤1000000:=by simp only[cC]at hl;constructor <;> omega
 have hlt6:(kd !=0)=true→S6.length+JC.length+(Lib.itoa kd).length≤10000000:=fun e=>by have:=Ku (w:=JC) (t:=(Lib.itoa kd)) e;omega
 refine Qb (fun env ds B=>env 1=.ptr d 0∧env 3=.ptr q 0∧env 4=.func (.func 110) [] [.ptr q 0]∧ds=[]∧B=A1.upd q (some (.cells [.str (S6++Z9 (kd !=0) JC (Lib.itoa kd))]))) ?_ ?_
 ·simp only[e1,e3,e4,hdB,Q1,seval]
  refine⟨fun hp=> ?_,fun hp=> ?_⟩
  ·have hb:(kd !=0)=false:=by simp [hp]
   rw[hb]
   refine Q3 (W2 G (is:=false) (w:=JC) (t:=(Lib.itoa kd)) (fn:=123) (Q0 ..) (fun h=>by cases h) fun h=>by cases h) ?_
   simp only[e1,e3,e4,QY,Q1,seval]
  ·have hb:(kd !=0)=true:=by simp [hp]
   have hl0:=hlt6 hb
   rw[hb]
   refine Q3 (W2 G (is:=true) (w:=JC) (t:=(Lib.itoa kd)) (fn:=123) (Q0 ..) (fun _=>k123 G hG hdB a10) fun _=>by omega) ?_
   simp only[e1,e3,e4,QY,Q1,seval]
 generalize hS7:S6++Z9 (kd !=0) JC (Lib.itoa kd)=S7 at*
 rintro env ds B ⟨e1,e3,e4,rfl,rfl⟩
 have hsl:S7.length≤1000000:=by simp only[cC]at hl;omega
 simp only[e3,Q1,seval]
 exact⟨by omega,Qc rfl (unO _ ((QU.refl _).set hq (by simp)))⟩
end
end Go.Proofs.YtcbjbgaefighcaaGreatDoor
