/- Part 36 of the proof. -/
import Derived.Test.YtcbjbgaefighcaaGreatDoorT0
import Derived.Test.YtcbjbgaefighcaaGreatDoorT7
import Derived.Test.YtcbjbgaefighcaaGreatDoorT30
import Derived.Test.YtcbjbgaefighcaaGreatDoorT33
import Derived.Test.YtcbjbgaefighcaaGreatDoorT34
import Derived.KernelRfl
import Derived.Test.YtcbjbgaefighcaaGreatDoorProg
set_option linter.all false
namespace Go.Proofs.YtcbjbgaefighcaaGreatDoor
open Go Go.Ax Go.Ax.K Go.Proofs
mutual
def HY:Exp→Prop
 | .mk _ _ _ xs=>xs.length≤2097152∧LF xs
def LF:List Exp→Prop
 |[]=>True
 |x::xs=>HY x∧LF xs
end
theorem Ty:∀{xs:List Exp},LF xs→∀x∈xs,HY x
 |y::ys,h,x,hx=>by
  simp only[LF]at h
  rcases dT.1 hx with rfl|hx
  ·exact h.1
  ·exact Ty h.2 x hx
theorem Im {A B:Q2}{no:List Nat}:Tips A no [none] B:={
 tip:=fun i t h=>by
  match i,h with
  |0,h=>cases h
 inj:=fun i j t h=>by
  match i,h with
  |0,h=>cases h}
def If {α:Type}(sz:Nat)(enc:α→List AV)(l:List α)(v:AV)(τ:Option Nat):Prop:=(v=.raw (.slice none 0 0)∧l=[]∧τ=none)∨∃t cs,v=.slice sz l.length cs (some t)∧τ=some t∧Xn cs (l.flatMap enc)
theorem If.one {α:Type}{sz:Nat}{enc:α→List AV}{l:List α}{v:AV}{τ:Option Nat}(h:If sz enc l v τ):v.one=true:=by
 rcases h with⟨rfl,_⟩|⟨t,cs,rfl,_⟩ <;> rfl
theorem If.cells {α:Type}{sz:Nat}{enc:α→List AV}{l:List α}{v:AV}{τ:Option Nat}(h:If sz enc l v τ):v.cells=[v]:=by
 rcases h with⟨rfl,_⟩|⟨t,cs,rfl,_⟩ <;> rfl
theorem If.wk {α:Type}{sz:Nat}{enc:α→List AV}{l:List α}{v:AV}{τ:Option Nat}(h:If sz enc l v τ):Wk v (Qr sz enc l):=by
 rcases h with⟨rfl,rfl,_⟩|⟨t,cs,rfl,_,h⟩
 ·exact Jf
 ·exact MV h
section
variable {C:Cx}{α:Type}{A B:Q2}{no:List Nat}{T:List (Option Nat)}{sz bytes:Nat}{enc:α→List AV}{x:List α}{v:AV}{τ:Option Nat}{d:Option Nat}{l:List LInstr}{st:List Fr}{env:Qn}{ds:List QV}
theorem Ko {y:α}{cy:List AV}(hv:If sz enc x v τ)(hT:Tips A no T B){i:Nat}(hi:T[i]? =some τ)(ho:QU A B)(hno:∀k∈no,∃o,B k=some o)(hb:(x.length+1)*bytes≤140737488355328)(hone:cy.all AV.one=true)(hw:Xn cy (enc y))
 (hk:∀v' τ' B',If sz enc (x++[y]) v' τ'→Tips A no (T.set i τ') B'→QU A B'→(∀k o,B k=some o→o≠ .tip→B' k=some o)→C.ops l st (putD env d v') ds B'):
 C.app (some (1,cy)) sz bytes v d l st env ds B:=by
 have hil:i<T.length:=by rw[fO]at hi;exact hi.1
 rcases hv with⟨rfl,rfl,rfl⟩|⟨t,cs,rfl,rfl,h⟩
 ·rw[XR,fD (by decide)]
  refine⟨by simp at hb;omega,fun t ht=>hk _ (some t) _ (.inr ⟨t,cy,by simp,rfl,by simpa using hw⟩) (hT.app0 hil ht (ho.gone ht) ?_) (ho.set (ho.gone ht) (by simp)) ?_⟩
  ·intro hm
   obtain⟨o,h⟩:=hno t hm
   rw[ht]at h;cases h
  ·intro k o h1 h2
   rw[Q5 (fun e=>by rw[e,ht]at h1;cases h1),h1]
 ·rw[V5]
  obtain⟨k1,k2,k3⟩:=hT.tip i t hi
  refine⟨rfl,k3,hb,hone,fun t' ht=>hk _ (some t') _ (.inr ⟨t',cs++cy,by simp,rfl,by simpa using H4 h hw⟩) (hT.app hil hi ht (ho.gone ht) ?_) ((ho.set k1 (by simp)).set (ho.gone ht) (by simp)) ?_⟩
  ·intro hm
   obtain⟨o,h⟩:=hno t' hm
   rw[ht]at h;cases h
  ·intro k o h1 h2
   rw[Q5 (fun e=>by rw[e,ht]at h1;cases h1),Q5 (fun e=>by rw[e,k3]at h1;cases h1;exact h2 rfl),h1]
theorem UM {z:List Value}(hT:Tips A no T B){i:Nat}(hi:i<T.length)(ho:QU A B)(hno:∀k∈no,∃o,B k=some o)
 (hk:∀t B',Tips A no (T.set i (some t)) B'→QU A B'→(∀k o,B k=some o→B' k=some o)→C.ops l st (putD env d (.slice sz 0 [] (some t))) ds B'):C.sl (Xp sz 0 z []) sz 0 d l st env ds B:=by
 refine QW (cs:=[]) (by simp [Xp,VM]) fun t ht=>hk t _ (hT.app0 hi ht (ho.gone ht) ?_) (ho.set (ho.gone ht) (by simp)) ?_
 ·intro hm
  obtain⟨o,h⟩:=hno t hm
  rw[ht]at h;cases h
 ·intro k o h1
  rw[Q5 (fun e=>by rw[e,ht]at h1;cases h1),h1]
theorem Uf {m t:Nat}{cs:List AV}(hT:Tips A no T B){i:Nat}(hi:T[i]? =some (some t))(ho:QU A B)(hno:∀k∈no,∃o,B k=some o)(hb:m*bytes≤140737488355328)(hone:cs.all AV.one=true)
 (hk:∀t' B',Tips A no (T.set i (some t')) B'→QU A B'→(∀k o,B k=some o→o≠ .tip→B' k=some o)→C.ops l st (putD env d (.slice sz m cs (some t'))) ds B'):
 C.app (some (m,cs)) sz bytes (.slice sz 0 [] (some t)) d l st env ds B:=by
 have hil:i<T.length:=by rw[fO]at hi;exact hi.1
 rw[V5]
 obtain⟨k1,k2,k3⟩:=hT.tip i t hi
 refine⟨rfl,k3,by simpa using hb,hone,fun t' ht=> ?_⟩
 have:=hk t' _ (hT.app hil hi ht (ho.gone ht) ?_) ((ho.set k1 (by simp)).set (ho.gone ht) (by simp)) ?_
 ·simpa using this
 ·intro hm
  obtain⟨o,h⟩:=hno t' hm
  rw[ht]at h;cases h
 ·intro k o h1 h2
  rw[Q5 (fun e=>by rw[e,ht]at h1;cases h1),Q5 (fun e=>by rw[e,k3]at h1;cases h1;exact h2 rfl),h1]
end
theorem OI {A B:Q2}{no:List Nat}{τ:Option Nat}{n:Nat}(h:Tips A no [τ] B):Tips A no (τ::List.replicate n none) B:={
 tip:=fun i t ht=>by
  match i,ht with
  |0,ht=>exact h.tip 0 t ht
  |i+1,ht=>simp [List.getElem?_replicate]at ht
 inj:=fun i j t h1 h2=>by
  match i,j,h1,h2 with
  |0,0,_,_=>rfl
  |i+1,_,h1,_=>simp [List.getElem?_replicate]at h1
  |0,j+1,_,h2=>simp [List.getElem?_replicate]at h2}
theorem Tt {A B:Q2}{no:List Nat}{τ:Option Nat}{T:List (Option Nat)}(h:Tips A no (τ::T) B):Tips A no [τ] B:={
 tip:=fun i t ht=>by
  match i,ht with
  |0,ht=>exact h.tip 0 t ht
 inj:=fun i j t h1 h2=>by
  match i,j,h1,h2 with
  |0,0,_,_=>rfl}
theorem V9 {α:Type}{enc:α→List AV}(h:∀x,(enc x).all AV.one=true):∀{xs:List α},(xs.flatMap enc).all AV.one=true
 |[]=>rfl
 |x::xs=>by rw[dD,fK,h x,V9 h];rfl
theorem M8 {A B:Q2}{no:List Nat}{T:List (Option Nat)}(h:Tips A no T B)(i:Nat):Tips A no (T.set i none) B:={
 tip:=fun j t ht=>by
  rw[List.getElem?_set]at ht
  split at ht
  ·split at ht <;> simp at ht
  ·exact h.tip j t ht
 inj:=fun j k t h1 h2=>by
  rw[List.getElem?_set]at h1 h2
  split at h1
  ·split at h1 <;> simp at h1
  ·split at h2
   ·split at h2 <;> simp at h2
   ·exact h.inj j k t h1 h2}
theorem PT {B:Q2}{d:Nat}{x:Option AObj}(h:B d=x):B.upd d x=B:=by
 funext k
 by_cases e:k=d
 ·subst e;rw[Q0,h]
 ·rw[Q5 e]
mutual
def PH:Stmt→Prop
 | .mk _ _ v b e=>HY v∧b.length≤2097152∧e.length≤2097152∧IB b∧IB e
def IB:List Stmt→Prop
 |[]=>True
 |x::xs=>PH x∧IB xs
end
theorem Tx:∀{xs:List Stmt},IB xs→∀x∈xs,PH x
 |y::ys,h,x,hx=>by
  simp only[IB]at h
  rcases dT.1 hx with rfl|hx
  ·exact h.1
  ·exact Tx h.2 x hx
section
variable (G:Nat→Option (List AV))
theorem Gx (x:Exp){A:Q2}(h:HY x):QB Tryz.prog G 104 [.agg x.cells] A (.agg x.cells) A:=by
 generalize hn:SizeOf.sizeOf x=sz
 induction sz using Nat.strongRecOn generalizing x A with
 |_ sz ih=>
 obtain⟨k,n,i,xs⟩:=x
 simp only[HY]at h
 refine Q4 l104 (fE rfl) ?_
 unfold AA
 refine Qb (fun env ds B=>∃p r,ds=[]∧env 1=.ptr p 0∧env 2=.ptr r 0∧A p=none∧A r=none∧B p=some (.cells [i64 k,.str n,i64 i,.slice 4 xs.length (xs.flatMap Exp.cells) none])∧B r=some (.cells [i64 0,.str [],i64 0,.raw (.slice none 0 0)])∧r≠p∧QU A B) ?_ ?_
 ·simp only[Exp.cells,Exp.cellsL_eq,Q1,seval]
  intro p hp r hr
  obtain⟨hrp,hr⟩:=Q9 hr
  exact⟨p,r,rfl,rfl,hp,hr,by rw[Q5 hrp.symm,Q0],Q0 ..,hrp,((QU.refl A).set hp (by simp)).set hr (by simp)⟩
 rintro env _ B ⟨p,r,rfl,e1,e2,hAp,hAr,hp,hr,hrp,hO⟩
 simp only[Q1,seval]
 refine Xh xs.length (fun i' env B=>env 1=.ptr p 0∧env 2=.ptr r 0∧env 4=i64 i'∧B p=some (.cells [i64 k,.str n,i64 i,.slice 4 xs.length (xs.flatMap Exp.cells) none])∧B r=some (.cells [i64 0,.str [],i64 0,.raw (.slice none 0 0)])∧QU A B∧∃v τ,env 3=v∧KN 4 Exp.cells (xs.take i') v τ∧Tips A [p,r] [τ] B) ⟨e1,e2,rfl,hp,hr,hO,_,none,rfl,.inl ⟨rfl,rfl,rfl⟩,?_⟩ ?_ ?_ ?_
 ·exact Im
 ·rintro i' env B s hi ⟨e1,e2,e4,hp,hr,hO,v,τ,e3,hv,hT⟩
  simp only[e1,e2,e3,e4,hp,Q1,seval]
  exact VA ⟨hr,hO,v,τ,rfl,hv,hT⟩
 ·rintro i' env B FR hi ⟨e1,e2,e4,hp,hr,hO,v,τ,e3,hv,hT⟩ _
  have QO:=Zg (enc:=Exp.cells) (sz:=4) Exp.cells_len hi
  have i1:(i':Int)<xs.length:=by omega
  have hw:IntKind.i64.wrap ((i':Int)+1)=((i'+1:Nat):Int):=by rw[Qe (by omega) (by omega)];simp
  simp only[e1,e2,e3,e4,hp,QO,i1,Q1,seval]
  refine Q3 (ih (SizeOf.sizeOf xs[i']) ?_ xs[i'] (Ty h.2 _ (cV _)) rfl) ?_
  ·have:=cY (cV hi)
   rw[←hn];simp only[Exp.mk.sizeOf_spec];omega
  simp only[Q1,seval]
  refine QW (cs:=xs[i'].cells) (Sl (Exp.cells_len xs[i'])) fun t ht=> ?_
  simp only[e3,Qx,Q1,seval]
  refine WA (enc:=Exp.cells) (y:=xs[i']) (i:=0) hv (hT.new (some .tip) ht) rfl (hO.set (hO.gone ht) (by simp)) ?_ (by simp;omega) (Exp.cells_one _) fun v' τ' B' q1 q2 q3 q4=> ?_
  ·intro k hk
   simp only[dT,dL,or_false]at hk
   rcases hk with rfl|rfl
   ·exact⟨_,(Q5 (Q6 hp ht)).trans hp⟩
   ·exact⟨_,(Q5 (Q6 hr ht)).trans hr⟩
  simp only[e1,e2,e4,hw,Q1,seval]
  exact⟨q4 _ _ ((Q5 (Q6 hp ht)).trans hp) (by simp),q4 _ _ ((Q5 (Q6 hr ht)).trans hr) (by simp),q3,_,τ',rfl,by rw[dJ hi];exact q1,q2⟩
 ·rintro env B ⟨e1,e2,e4,hp,hr,hO,v,τ,e3,hv,hT⟩
  rw[fT]at hv
  simp only[e1,e2,e3,hp,hr,hv.cells,hv.one,Q5 hrp,Q0,Q1,seval]
  rw[show(Exp.mk k n i xs).cells=[i64 k,.str n,i64 i,Qr 4 Exp.cells xs]by simp only[Exp.cells,Exp.cellsL_eq,Qr]]
  exact YE (Y9 (.cons (Wk.refl _) (.cons (Wk.refl _) (.cons (Wk.refl _) (.cons hv.wk .nil))))) ((hO.set hAp (by simp)).set hAr (by simp))
theorem k103 (xs:List Stmt){A:Q2}(hl:xs.length≤2097152)(h:IB xs):QB Tryz.prog G 103 [.slice 8 xs.length (Stmt.cellsL xs) none] A (.slice 8 xs.length (Stmt.cellsL xs) none) A:=by
 generalize hn:SizeOf.sizeOf xs=sz
 induction sz using Nat.strongRecOn generalizing xs A with
 |_ sz ih=>
 rw[Stmt.cellsL_eq]
 refine Q4 l103 (fE rfl) ?_
 unfold AB
 simp only[Q1,seval]
 refine Xh xs.length (fun i env B=>env 0=.slice 8 xs.length (xs.flatMap Stmt.cells) none∧env 4=i64 i∧QU A B∧∃v τ,env 3=v∧If 8 Stmt.cells (xs.take i) v τ∧Tips A [] [τ] B) ⟨rfl,rfl,.refl _,_,none,rfl,.inl ⟨rfl,rfl,rfl⟩,Im⟩ ?_ ?_ ?_
 ·rintro i env B s hi ⟨e0,e4,hO,v,τ,e3,hv,hT⟩
  simp only[e0,e3,e4,Q1,seval]
  exact VA ⟨hO,v,τ,rfl,hv,hT⟩
 ·rintro i env B FR hi ⟨e0,e4,hO,v,τ,e3,hv,hT⟩ _
  have QO:=Zg (enc:=Stmt.cells) (sz:=8) Stmt.cells_len hi
  have i1:(i:Int)<xs.length:=by omega
  have hw:IntKind.i64.wrap ((i:Int)+1)=((i+1:Nat):Int):=by rw[Qe (by omega) (by omega)];simp
  have hlt:=Tx h _ (cV hi)
  have hsz:=cY (cV hi)
  obtain⟨x,hx⟩:∃x,xs[i]=x:=⟨_,rfl⟩
  rw[hx]at QO hlt hsz
  obtain⟨k,n,sv,b,e⟩:=x
  simp only[PH]at hlt
  have i0:=fun A=>Gx G sv (A:=A) hlt.1
  have i1':=fun A=>ih (SizeOf.sizeOf b) (by simp only[Stmt.mk.sizeOf_spec]at hsz;omega) b (A:=A) hlt.2.1 hlt.2.2.2.1 rfl
  have i2':=fun A=>ih (SizeOf.sizeOf e) (by simp only[Stmt.mk.sizeOf_spec]at hsz;omega) e (A:=A) hlt.2.2.1 hlt.2.2.2.2 rfl
  clear ih
  obtain⟨v0,v1,vi,vx⟩:=sv
  simp only[Exp.cells]at i0
  simp only[Stmt.cells,Exp.cells,cF,cI]at QO
  simp only[e0,e3,e4,QO,i1,Q1,seval]
  intro d hd
  have hO:=hO.set (hO.gone hd) (o:=some (.cells [i64 k,.str n,i64 v0,.str v1,i64 vi,.slice 4 vx.length (Exp.cellsL vx) none,.slice 8 b.length (Stmt.cellsL b) none,.slice 8 e.length (Stmt.cellsL e) none])) (by simp)
  have hT:=hT.new (some (.cells [i64 k,.str n,i64 v0,.str v1,i64 vi,.slice 4 vx.length (Exp.cellsL vx) none,.slice 8 b.length (Stmt.cellsL b) none,.slice 8 e.length (Stmt.cellsL e) none])) hd
  have hd:(B.upd d (some (.cells [i64 k,.str n,i64 v0,.str v1,i64 vi,.slice 4 vx.length (Exp.cellsL vx) none,.slice 8 b.length (Stmt.cellsL b) none,.slice 8 e.length (Stmt.cellsL e) none]))) d=_:=Q0 ..
  generalize B.upd d (some (.cells [i64 k,.str n,i64 v0,.str v1,i64 vi,.slice 4 vx.length (Exp.cellsL vx) none,.slice 8 b.length (Stmt.cellsL b) none,.slice 8 e.length (Stmt.cellsL e) none]))=B at*
  refine Q3 (i0 _) ?_
  simp only[hd,QM,Q1,seval]
  refine Q3 (i1' _) ?_
  simp only[hd,QM,Q1,seval]
  refine Q3 (i2' _) ?_
  simp only[hd,QM,Q0,Q1,seval]
  rw[PT hd]
  have hxc:xs[i].cells=[i64 k,.str n,i64 v0,.str v1,i64 vi,.slice 4 vx.length (Exp.cellsL vx) none,.slice 8 b.length (Stmt.cellsL b) none,.slice 8 e.length (Stmt.cellsL e) none]:=by rw[hx];rfl
  rw[←hxc]
  refine QW (cs:=xs[i].cells) (Sl (Stmt.cells_len xs[i])) fun t ht=> ?_
  simp only[e3,Qx,Q1,seval]
  refine Ko (enc:=Stmt.cells) (y:=xs[i]) (i:=0) hv (hT.new (some .tip) ht) rfl (hO.set (hO.gone ht) (by simp)) (by simp) (by simp;omega) (Stmt.cells_one _) (JO _) fun v' τ' B' q1 q2 q3 q4=> ?_
  simp only[e0,e4,hw,Q1,seval]
  exact⟨q3,_,τ',rfl,by rw[dJ hi];exact q1,q2⟩
 ·rintro env B ⟨e0,e4,hO,v,τ,e3,hv,hT⟩
  rw[fT]at hv
  simp only[e3,Q1,seval]
  exact YE hv.wk hO
def smF (f:Func):Prop:=f.params.length≤2097152∧f.body.length≤2097152∧IB f.body
theorem k39 (xs:List Func){A:Q2}(hl:xs.length≤2097152)(h:∀f∈xs,smF f):QB Tryz.prog G 39 [.slice 3 xs.length (xs.flatMap Func.cells) none] A (Qr 3 Func.cells xs) A:=by
 refine Q4 l39 (fE rfl) ?_
 unfold C39
 simp only[Q1,seval]
 refine Xh xs.length (fun i env B=>env 0=.slice 3 xs.length (xs.flatMap Func.cells) none∧env 4=i64 i∧QU A B∧∃v τ,env 3=v∧If 3 Func.cells (xs.take i) v τ∧Tips A [] [τ] B) ⟨rfl,rfl,.refl _,_,none,rfl,.inl ⟨rfl,rfl,rfl⟩,Im⟩ ?_ ?_ ?_
 ·rintro i env B s hi ⟨e0,e4,hO,v,τ,e3,hv,hT⟩
  simp only[e0,e3,e4,Q1,seval]
  exact VA ⟨hO,v,τ,rfl,hv,hT⟩
 ·rintro i env B FR hi ⟨e0,e4,hO,v,τ,e3,hv,hT⟩ _
  have QO:=Zg (enc:=Func.cells) (sz:=3) (fun _=>rfl) hi
  have i1:(i:Int)<xs.length:=by omega
  have hw:IntKind.i64.wrap ((i:Int)+1)=((i+1:Nat):Int):=by rw[Qe (by omega) (by omega)];simp
  have hlt:=h _ (cV hi)
  obtain⟨x,hx⟩:∃x,xs[i]=x:=⟨_,rfl⟩
  rw[hx]at QO hlt
  obtain⟨n,ps,bd⟩:=x
  simp only[smF]at hlt
  have i0:=fun A=>k103 G bd (A:=A) hlt.2.1 hlt.2.2
  simp only[Stmt.cellsL_eq]at i0
  simp only[Func.cells,Qr,cF,cI]at QO
  simp only[e0,e3,e4,QO,i1,Q1,seval]
  have hT:Tips A [] [τ,none] B:=OI (n:=1) hT
  refine UM hT (i:=1) (by simp) hO (by simp) fun t B hT hO _=> ?_
  simp only[Qx,QM,Q1,seval]
  refine Uf hT (i:=1) rfl hO (by simp) (by omega) (V9 fun _=>rfl) fun t B hT hO _=> ?_
  simp only[QM,Q1,seval]
  refine Q3 (i0 _) ?_
  simp only[QM,Q1,seval]
  refine QW (cs:=[.str n,.slice 1 ps.length (ps.flatMap Zp) (some t),.slice 8 bd.length (bd.flatMap Stmt.cells) none]) (J5 _ _ rfl rfl) fun t2 ht2=> ?_
  simp only[e3,Qx,QM,Q1,seval]
  refine Ko (enc:=Func.cells) (y:=xs[i]) (i:=0) hv ((Tt (T:=[some t]) hT).new (some .tip) ht2) rfl (hO.set (hO.gone ht2) (by simp)) (by simp) (by simp;omega) rfl (by rw[hx];exact .cons (Wk.refl _) (.cons Jt (.cons (Wk.refl _) .nil))) fun v' τ' B' q1 q2 q3 q4=> ?_
  simp only[e0,e4,hw,QM,Q1,seval]
  exact⟨q3,_,τ',rfl,by rw[dJ hi];exact q1,q2⟩
 ·rintro env B ⟨e0,e4,hO,v,τ,e3,hv,hT⟩
  rw[fT]at hv
  simp only[e3,Q1,seval]
  exact YE hv.wk hO
def SJ (x:Edge):Prop:=x.tests.length≤2097152∧HY x.cond∧x.sets.length≤2097152∧(∀a∈x.sets,HY a.val)∧x.clears.length≤2097152
theorem k40 (es:List Edge){A:Q2}(hl:es.length≤2097152)(h:∀x∈es,SJ x):QB Tryz.prog G 40 [.slice 13 es.length (es.flatMap Edge.cells) none] A (Qr 13 Edge.cells es) A:=by
 refine Q4 l40 (fE rfl) ?_
 unfold C40
 simp only[Q1,seval]
 refine Xh es.length (fun i env B=>env 0=.slice 13 es.length (es.flatMap Edge.cells) none∧env 4=i64 i∧QU A B∧∃v τ,env 3=v∧If 13 Edge.cells (es.take i) v τ∧Tips A [] [τ] B) ⟨rfl,rfl,.refl _,_,none,rfl,.inl ⟨rfl,rfl,rfl⟩,Im⟩ ?_ ?_ ?_
 ·rintro i env B s hi ⟨e0,e4,hO,v,τ,e3,hv,hT⟩
  simp only[e0,e3,e4,Q1,seval]
  exact VA ⟨hO,v,τ,rfl,hv,hT⟩
 ·rintro i env B FR hi ⟨e0,e4,hO,v,τ,e3,hv,hT⟩ _
  have QO:=Zg (enc:=Edge.cells) (sz:=13) Edge.cells_len hi
  have i1:(i:Int)<es.length:=by omega
  have hw:IntKind.i64.wrap ((i:Int)+1)=((i+1:Nat):Int):=by rw[Qe (by omega) (by omega)];simp
  have hlt:=h _ (cV hi)
  obtain⟨x,hx⟩:∃x,es[i]=x:=⟨_,rfl⟩
  rw[hx]at QO hlt
  obtain⟨xn,xd,xt,⟨v0,v1,vi,vx⟩,xc,xs,ss,cs,co,ki⟩:=x
  simp only[SJ]at hlt
  obtain⟨z1,z2,z3,z4,z5⟩:=hlt
  have i0:=fun A=>Gx G (.mk v0 v1 vi vx) (A:=A) z2
  simp only[Exp.cells]at i0
  simp only[Edge.cells,Exp.cells,Qr,cF,cI]at QO
  rw[Kj,Vm]
  refine Qb (fun env ds B=>∃d,ds=[]∧env 0=.slice 13 es.length (es.flatMap Edge.cells) none∧env 4=i64 i∧env 3=v∧env 5=.ptr d 0∧A d=none∧B d=some (.cells [.str xn,.str xd,.slice 4 xt.length (xt.flatMap Test.cells) none,i64 v0,.str v1,i64 vi,.slice 4 vx.length (Exp.cellsL vx) none,.str xc,bo xs,.slice 5 ss.length (ss.flatMap Assign.cells) none,.slice 2 cs.length (cs.flatMap Clear.cells) none,i64 co,i64 ki])∧QU A B∧Tips A [] [τ,none,none,none] B) ?_ ?_
  ·simp only[e0,e3,e4,QO,i1,Q1,seval]
   exact fun d hd=>⟨d,rfl,hO.gone hd,Q0 ..,hO.set (hO.gone hd) (by simp),OI (n:=3) (hT.new _ hd)⟩
  clear e0 e3 e4 hO hT
  rintro env _ B ⟨d,rfl,e0,e4,e3,e5,hAd,hd,hO,hT⟩
  refine Qb (fun env ds B=>∃t1 t2,ds=[]∧env 0=.slice 13 es.length (es.flatMap Edge.cells) none∧env 4=i64 i∧env 3=v∧env 5=.ptr d 0∧B d=some (.cells [.str xn,.str xd,.slice 4 xt.length (xt.flatMap Test.cells) (some t1),i64 v0,.str v1,i64 vi,.slice 4 vx.length (Exp.cellsL vx) none,.str xc,bo xs,.slice 5 ss.length (ss.flatMap Assign.cells) none,.slice 2 cs.length (cs.flatMap Clear.cells) (some t2),i64 co,i64 ki])∧QU A B∧Tips A [] [τ,some t1,some t2,none] B) ?_ ?_
  ·simp only[e5,hd,Q1,seval]
   refine⟨?_,?_⟩
   refine UM hT (i:=1) (by simp) hO (by simp) fun t1 B hT hO q=> ?_
   have hd:=q _ _ hd
   simp only[e5,hd,Qx,QM,Q1,seval]
   refine⟨?_,?_⟩
   refine Uf (t:=t1) hT (i:=1) rfl hO (by simp) (by omega) (V9 fun _=>rfl) fun t1 B hT hO q=> ?_
   have hd:=q _ _ hd (by simp)
   simp only[e5,hd,Qx,QM,Q1,seval]
   refine UM hT (i:=2) (by simp) hO (by simp) fun t2 B hT hO q=> ?_
   have hd:=q _ _ hd
   simp only[e5,hd,Qx,QM,Q1,seval]
   refine Uf (t:=t2) hT (i:=2) rfl hO (by simp) (by omega) (V9 fun _=>rfl) fun t2 B hT hO q=> ?_
   have hd:=q _ _ hd (by simp)
   simp only[e5,hd,Qx,QM,Q1,seval]
   refine Q3 (i0 _) ?_
   simp only[e0,e3,e4,e5,hd,QM,Q0,Q1,seval]
   exact⟨t1,t2,rfl,hO.set hAd (by simp),hT.loc _ hd (by simp)⟩
   refine UM hT (i:=2) (by simp) hO (by simp) fun t2 B hT hO q=> ?_
   have hd:=q _ _ hd
   simp only[e5,hd,Qx,QM,Q1,seval]
   refine Uf (t:=t1) hT (i:=1) rfl hO (by simp) (by omega) (V9 fun _=>rfl) fun t1 B hT hO q=> ?_
   have hd:=q _ _ hd (by simp)
   simp only[e5,hd,Qx,QM,Q1,seval]
   refine Uf (t:=t2) hT (i:=2) rfl hO (by simp) (by omega) (V9 fun _=>rfl) fun t2 B hT hO q=> ?_
   have hd:=q _ _ hd (by simp)
   simp only[e5,hd,Qx,QM,Q1,seval]
   refine Q3 (i0 _) ?_
   simp only[e0,e3,e4,e5,hd,QM,Q0,Q1,seval]
   exact⟨t1,t2,rfl,hO.set hAd (by simp),hT.loc _ hd (by simp)⟩
   refine UM hT (i:=2) (by simp) hO (by simp) fun t2 B hT hO q=> ?_
   have hd:=q _ _ hd
   simp only[e5,hd,Qx,QM,Q1,seval]
   refine UM hT (i:=1) (by simp) hO (by simp) fun t1 B hT hO q=> ?_
   have hd:=q _ _ hd
   simp only[e5,hd,Qx,QM,Q1,seval]
   refine Uf (t:=t1) hT (i:=1) rfl hO (by simp) (by omega) (V9 fun _=>rfl) fun t1 B hT hO q=> ?_
   have hd:=q _ _ hd (by simp)
   simp only[e5,hd,Qx,QM,Q1,seval]
   refine Uf (t:=t2) hT (i:=2) rfl hO (by simp) (by omega) (V9 fun _=>rfl) fun t2 B hT hO q=> ?_
   have hd:=q _ _ hd (by simp)
   simp only[e5,hd,Qx,QM,Q1,seval]
   refine Q3 (i0 _) ?_
   simp only[e0,e3,e4,e5,hd,QM,Q0,Q1,seval]
   exact⟨t1,t2,rfl,hO.set hAd (by simp),hT.loc _ hd (by simp)⟩
  clear e0 e3 e4 e5 hd hO hT
  rintro env _ B ⟨t1,t2,rfl,e0,e4,e3,e5,hd,hO,hT⟩
  refine Qb (fun env ds B'=>ds=[]∧env 0=.slice 13 es.length (es.flatMap Edge.cells) none∧env 4=i64 i∧env 3=v∧env 5=.ptr d 0∧env 6=.raw (.slice none 0 0)∧B=B') ?_ ?_
  ·simp only[e0,e3,e4,e5,Q1,seval]
  clear e0 e3 e4 e5
  rintro env _ _ ⟨rfl,e0,e4,e3,e5,e6,rfl⟩
  refine Qb (fun env ds B=>∃v2 τ2,ds=[]∧env 0=.slice 13 es.length (es.flatMap Edge.cells) none∧env 4=i64 i∧env 3=v∧env 5=.ptr d 0∧env 6=v2∧B d=some (.cells [.str xn,.str xd,.slice 4 xt.length (xt.flatMap Test.cells) (some t1),i64 v0,.str v1,i64 vi,.slice 4 vx.length (Exp.cellsL vx) none,.str xc,bo xs,.slice 5 ss.length (ss.flatMap Assign.cells) none,.slice 2 cs.length (cs.flatMap Clear.cells) (some t2),i64 co,i64 ki])∧QU A B∧If 5 Assign.cells ss v2 τ2∧Tips A [] [τ,some t1,some t2,τ2] B) ?_ ?_
  ·simp only[Q1,seval]
   refine Xh ss.length (fun j env B=>env 0=.slice 13 es.length (es.flatMap Edge.cells) none∧env 4=i64 i∧env 3=v∧env 5=.ptr d 0∧env 7=i64 j∧B d=some (.cells [.str xn,.str xd,.slice 4 xt.length (xt.flatMap Test.cells) (some t1),i64 v0,.str v1,i64 vi,.slice 4 vx.length (Exp.cellsL vx) none,.str xc,bo xs,.slice 5 ss.length (ss.flatMap Assign.cells) none,.slice 2 cs.length (cs.flatMap Clear.cells) (some t2),i64 co,i64 ki])∧QU A B∧∃v2 τ2,env 6=v2∧If 5 Assign.cells (ss.take j) v2 τ2∧Tips A [] [τ,some t1,some t2,τ2] B) ⟨e0,e4,e3,e5,rfl,hd,hO,_,none,e6,.inl ⟨rfl,rfl,rfl⟩,hT⟩ ?_ ?_ ?_
   ·rintro j env B s hj ⟨e0,e4,e3,e5,e7,hd,hO,v2,τ2,e6,hv2,hT⟩
    simp only[e0,e3,e4,e5,e6,e7,hd,Q1,seval]
    exact VA ⟨hO,v2,τ2,rfl,hv2,hT⟩
   ·rintro j env B FR hj ⟨e0,e4,e3,e5,e7,hd,hO,v2,τ2,e6,hv2,hT⟩ _
    have hd2:=Zg (enc:=Assign.cells) (sz:=5) Assign.cells_len hj
    have i2:(j:Int)<ss.length:=by omega
    have hw2:IntKind.i64.wrap ((j:Int)+1)=((j+1:Nat):Int):=by rw[Qe (by omega) (by omega)];simp
    have hlt:=z4 _ (cV hj)
    obtain⟨a,ha⟩:∃a,ss[j]=a:=⟨_,rfl⟩
    rw[ha]at hd2 hlt
    obtain⟨an,a0,a1,ai,ax⟩:=a
    have i3:=fun A=>Gx G (.mk a0 a1 ai ax) (A:=A) hlt
    simp only[Exp.cells]at i3
    simp only[Assign.cells,Exp.cells,cF,cI]at hd2
    simp only[e0,e3,e4,e5,e6,e7,hd,hd2,i2,Q1,seval]
    refine Q3 (i3 _) ?_
    simp only[hd,QM,Q1,seval]
    have hac:[.str an,i64 a0,.str a1,i64 ai,.slice 4 ax.length (Exp.cellsL ax) none]=ss[j].cells:=by rw[ha];rfl
    rw[hac]
    refine QW (cs:=ss[j].cells) (J5 _ _ (Assign.cells_len ss[j]) rfl) fun t ht=> ?_
    have hd:=(Q8 B t (some .tip) (Q6 hd ht)).trans hd
    simp only[e6,Qx,hd,QM,Q1,seval]
    refine Ko (enc:=Assign.cells) (y:=ss[j]) (i:=3) hv2 (hT.new (some .tip) ht) rfl (hO.set (hO.gone ht) (by simp)) (by simp) (by simp;omega) (by rw[ha];rfl) (JO _) fun v' τ' B' q1 q2 q3 q4=> ?_
    have hd:=q4 _ _ hd (by simp)
    simp only[e0,e3,e4,e5,e7,hw2,hd,QM,Q1,seval]
    exact⟨q3,_,τ',rfl,by rw[dJ hj];exact q1,q2⟩
   ·rintro env B ⟨e0,e4,e3,e5,e7,hd,hO,v2,τ2,e6,hv2,hT⟩
    rw[fT]at hv2
    simp only[Q1,seval]
    exact⟨v2,τ2,e0,e4,e3,e5,e6,hd,hO,hv2,hT⟩
  clear e0 e3 e4 e5 e6 hd hO hT
  rintro env _ B ⟨v2,τ2,rfl,e0,e4,e3,e5,e6,hd,hO,hv2,hT⟩
  simp only[e0,e3,e4,e5,e6,hd,hv2.cells,hv2.one,Q0,Q1,seval]
  have hT:=hT.loc (some (.cells [.str xn,.str xd,.slice 4 xt.length (xt.flatMap Test.cells) (some t1),i64 v0,.str v1,i64 vi,.slice 4 vx.length (Exp.cellsL vx) none,.str xc,bo xs,v2,.slice 2 cs.length (cs.flatMap Clear.cells) (some t2),i64 co,i64 ki])) hd (by simp)
  have hO:=hO.set hAd (o:=some (.cells [.str xn,.str xd,.slice 4 xt.length (xt.flatMap Test.cells) (some t1),i64 v0,.str v1,i64 vi,.slice 4 vx.length (Exp.cellsL vx) none,.str xc,bo xs,v2,.slice 2 cs.length (cs.flatMap Clear.cells) (some t2),i64 co,i64 ki])) (by simp)
  generalize B.upd d (some (.cells [.str xn,.str xd,.slice 4 xt.length (xt.flatMap Test.cells) (some t1),i64 v0,.str v1,i64 vi,.slice 4 vx.length (Exp.cellsL vx) none,.str xc,bo xs,v2,.slice 2 cs.length (cs.flatMap Clear.cells) (some t2),i64 co,i64 ki]))=B at*
  refine QW (cs:=[.str xn,.str xd,.slice 4 xt.length (xt.flatMap Test.cells) (some t1),i64 v0,.str v1,i64 vi,.slice 4 vx.length (Exp.cellsL vx) none,.str xc,bo xs,v2,.slice 2 cs.length (cs.flatMap Clear.cells) (some t2),i64 co,i64 ki]) (J5 _ _ rfl rfl) fun t3 ht3=> ?_
  simp only[e3,Qx,Q1,seval]
  refine Ko (enc:=Edge.cells) (y:=es[i]) (i:=0) hv ((Tt (T:=[some t1,some t2,τ2]) hT).new (some .tip) ht3) rfl (hO.set (hO.gone ht3) (by simp)) (by simp) (by simp;omega) (by simp only[dU,lP,hv2.one];rfl) (by rw[hx];simp only[Edge.cells,Exp.cells,Qr,cF,cI];exact .cons (Wk.refl _) (.cons (Wk.refl _) (.cons Jt (.cons (Wk.refl _) (.cons (Wk.refl _) (.cons (Wk.refl _) (.cons (Wk.refl _) (.cons (Wk.refl _) (.cons (Wk.refl _) (.cons hv2.wk (.cons Jt (.cons (Wk.refl _) (.cons (Wk.refl _) .nil))))))))))))) fun v' τ' B' q1 q2 q3 q4=> ?_
  simp only[e0,e4,hw,Q1,seval]
  exact⟨q3,_,τ',rfl,by rw[dJ hi];exact q1,q2⟩
 ·rintro env B ⟨e0,e4,hO,v,τ,e3,hv,hT⟩
  rw[fT]at hv
  simp only[e3,Q1,seval]
  exact YE hv.wk hO
def smP (x:Proc):Prop:=x.locs.length≤2097152∧(∀l∈x.locs,l.inv.length≤2097152)∧x.edges.length≤2097152∧∀y∈x.edges,SJ y
structure SmM (m:Model):Prop where
 clocks:m.clocks.length≤2097152
 vars:m.vars.length≤2097152
 chans:m.chans.length≤2097152
 funcs:m.funcs.length≤2097152
 func:∀f∈m.funcs,smF f
 procs:m.procs.length≤2097152
 proc:∀x∈m.procs,smP x
theorem n13 (m:Model){A:Q2}(h:SmM m):QB Tryz.prog G 13 [.agg m.cells] A (.agg m.cells) A:=by
 obtain⟨n,cl,vs,ch,fs,ps⟩:=m
 obtain⟨y1,y2,y3,y4,y5,y6,y7⟩:=h
 simp only at y1 y2 y3 y4 y5 y6 y7
 refine Q4 l13 (fE rfl) ?_
 unfold C13
 refine Qb (fun env ds B=>∃p r,ds=[]∧env 1=.ptr p 0∧env 2=.ptr r 0∧A p=none∧A r=none∧B p=some (.cells [.str n,.slice 1 cl.length (cl.flatMap Zp) none,.slice 4 vs.length (vs.flatMap Var.cells) none,.slice 3 ch.length (ch.flatMap Chan.cells) none,.slice 3 fs.length (fs.flatMap Func.cells) none,.slice 4 ps.length (ps.flatMap Proc.cells) none])∧B r=some (.cells [.str [],.raw (.slice none 0 0),.raw (.slice none 0 0),.raw (.slice none 0 0),.raw (.slice none 0 0),.raw (.slice none 0 0)])∧r≠p∧QU A B) ?_ ?_
 ·simp only[Model.cells,Qr,Q1,seval]
  intro p hp r hr
  obtain⟨hrp,hr⟩:=Q9 hr
  exact⟨p,r,rfl,rfl,hp,hr,by rw[Q5 hrp.symm,Q0],Q0 ..,hrp,((QU.refl A).set hp (by simp)).set hr (by simp)⟩
 rintro env _ B ⟨p,r,rfl,e1,e2,hAp,hAr,hp,hr,hrp,hO⟩
 have hT:Tips A [] [none,none,none,none,none,none] B:=OI (n:=5) Im
 refine Qb (fun env ds B=>∃t1 t2 t3,ds=[]∧env 1=.ptr p 0∧env 2=.ptr r 0∧B p=some (.cells [.str n,.slice 1 cl.length (cl.flatMap Zp) (some t1),.slice 4 vs.length (vs.flatMap Var.cells) (some t2),.slice 3 ch.length (ch.flatMap Chan.cells) (some t3),.slice 3 fs.length (fs.flatMap Func.cells) none,.slice 4 ps.length (ps.flatMap Proc.cells) none])∧B r=some (.cells [.str [],.raw (.slice none 0 0),.raw (.slice none 0 0),.raw (.slice none 0 0),.raw (.slice none 0 0),.raw (.slice none 0 0)])∧QU A B∧Tips A [] [some t1,some t2,some t3,none,none,none] B) ?_ ?_
 ·simp only[e1,hp,Q1,seval]
  repeat' (first
   |(refine UM (sz:=1) hT (i:=0) (by simp) hO (by simp) fun t B hT hO q=> ?_;have hp:=q _ _ hp;have hr:=q _ _ hr;simp only[e1,hp,Qx,QM,Q1,seval])
   |(refine UM (sz:=4) hT (i:=1) (by simp) hO (by simp) fun t B hT hO q=> ?_;have hp:=q _ _ hp;have hr:=q _ _ hr;simp only[e1,hp,Qx,QM,Q1,seval])
   |(refine UM (sz:=3) hT (i:=2) (by simp) hO (by simp) fun t B hT hO q=> ?_;have hp:=q _ _ hp;have hr:=q _ _ hr;simp only[e1,hp,Qx,QM,Q1,seval])
   |(refine Uf (sz:=1) (bytes:=16) hT (i:=0) rfl hO (by simp) (by omega) (V9 fun _=>rfl) fun t B hT hO q=> ?_;have hp:=q _ _ hp (by simp);have hr:=q _ _ hr (by simp);simp only[e1,hp,Qx,QM,Q0,Q1,seval])
   |(refine Uf (sz:=4) (bytes:=40) hT (i:=1) rfl hO (by simp) (by omega) (V9 fun _=>rfl) fun t B hT hO q=> ?_;have hp:=q _ _ hp (by simp);have hr:=q _ _ hr (by simp);simp only[e1,hp,Qx,QM,Q0,Q1,seval])
   |(refine Uf (sz:=3) (bytes:=24) hT (i:=2) rfl hO (by simp) (by omega) (V9 fun _=>rfl) fun t B hT hO q=> ?_;have hp:=q _ _ hp (by simp);have hr:=q _ _ hr (by simp);simp only[e1,hp,Qx,QM,Q0,Q1,seval])
   |with_reducible refine And.intro ?_ ?_)
  all_goals exact⟨_,_,_,e2,rfl,(Q5 hrp).trans hr,hO.set hAp (by simp),hT.loc _ hp (by simp)⟩
 clear e1 e2 hp hr hO hT
 rintro env _ B ⟨t1,t2,t3,rfl,e1,e2,hp,hr,hO,hT⟩
 refine Qb (fun env ds B'=>ds=[]∧env 1=.ptr p 0∧env 2=.ptr r 0∧B=B') ?_ ?_
 ·simp only[e1,hp,Q1,seval]
  refine Q3 (k39 G fs y4 y5) ?_
  simp only[e1,hp,Qr,Q1,seval]
  exact⟨e2,(PT hp).symm⟩
 clear e1 e2
 rintro env _ _ ⟨rfl,e1,e2,rfl⟩
 refine Qb (fun env ds B'=>ds=[]∧env 1=.ptr p 0∧env 2=.ptr r 0∧env 3=.raw (.slice none 0 0)∧B=B') ?_ ?_
 ·simp only[e1,e2,Q1,seval]
 clear e1 e2
 rintro env _ _ ⟨rfl,e1,e2,e3,rfl⟩
 simp only[Q1,seval]
 refine Xh ps.length (fun i env B=>env 1=.ptr p 0∧env 2=.ptr r 0∧env 4=i64 i∧B p=some (.cells [.str n,.slice 1 cl.length (cl.flatMap Zp) (some t1),.slice 4 vs.length (vs.flatMap Var.cells) (some t2),.slice 3 ch.length (ch.flatMap Chan.cells) (some t3),.slice 3 fs.length (fs.flatMap Func.cells) none,.slice 4 ps.length (ps.flatMap Proc.cells) none])∧B r=some (.cells [.str [],.raw (.slice none 0 0),.raw (.slice none 0 0),.raw (.slice none 0 0),.raw (.slice none 0 0),.raw (.slice none 0 0)])∧QU A B∧∃v τ,env 3=v∧If 4 Proc.cells (ps.take i) v τ∧Tips A [] [some t1,some t2,some t3,τ,none,none] B) ⟨e1,e2,rfl,hp,hr,hO,_,none,e3,.inl ⟨rfl,rfl,rfl⟩,hT⟩ ?_ ?_ ?_
 ·rintro i env B s hi ⟨e1,e2,e4,hp,hr,hO,v,τ,e3,hv,hT⟩
  simp only[e1,e2,e3,e4,hp,Q1,seval]
  exact VA ⟨hr,hO,v,τ,rfl,hv,hT⟩
 ·rintro i env B FR hi ⟨e1,e2,e4,hp,hr,hO,v,τ,e3,hv,hT⟩ _
  have QO:=Zg (enc:=Proc.cells) (sz:=4) (fun _=>rfl) hi
  have i1:(i:Int)<ps.length:=by omega
  have hw:IntKind.i64.wrap ((i:Int)+1)=((i+1:Nat):Int):=by rw[Qe (by omega) (by omega)];simp
  have hlt:=y7 _ (cV hi)
  obtain⟨x,hx⟩:∃x,ps[i]=x:=⟨_,rfl⟩
  rw[hx]at QO hlt
  obtain⟨pn,pi,ls,es⟩:=x
  obtain⟨z1,z2,z3,z4⟩:=hlt
  simp only at z1 z2 z3 z4
  have i0:=fun A=>k40 G es (A:=A) z3 z4
  simp only[Proc.cells,Qr,cF,cI]at QO i0
  rw[Kj,Vm]
  refine Qb (fun env ds B=>∃d,ds=[]∧env 1=.ptr p 0∧env 2=.ptr r 0∧env 3=v∧env 4=i64 i∧env 5=.ptr d 0∧A d=none∧B d=some (.cells [.str pn,.str pi,.slice 4 ls.length (ls.flatMap Loc.cells) none,.slice 13 es.length (es.flatMap Edge.cells) none])∧B p=some (.cells [.str n,.slice 1 cl.length (cl.flatMap Zp) (some t1),.slice 4 vs.length (vs.flatMap Var.cells) (some t2),.slice 3 ch.length (ch.flatMap Chan.cells) (some t3),.slice 3 fs.length (fs.flatMap Func.cells) none,.slice 4 ps.length (ps.flatMap Proc.cells) none])∧B r=some (.cells [.str [],.raw (.slice none 0 0),.raw (.slice none 0 0),.raw (.slice none 0 0),.raw (.slice none 0 0),.raw (.slice none 0 0)])∧QU A B∧Tips A [] [some t1,some t2,some t3,τ,none,none] B) ?_ ?_
  ·simp only[e1,e2,e3,e4,hp,QO,i1,Q1,seval]
   exact fun d hd=>⟨d,rfl,hO.gone hd,Q0 ..,(Q5 (Q6 hp hd)).trans hp,(Q5 (Q6 hr hd)).trans hr,hO.set (hO.gone hd) (by simp),hT.new _ hd⟩
  clear e1 e2 e3 e4 hp hr hO hT
  rintro env _ B ⟨d,rfl,e1,e2,e3,e4,e5,hAd,hd,hp,hr,hO,hT⟩
  refine Qb (fun env ds B'=>ds=[]∧env 1=.ptr p 0∧env 2=.ptr r 0∧env 3=v∧env 4=i64 i∧env 5=.ptr d 0∧env 6=.raw (.slice none 0 0)∧B=B') ?_ ?_
  ·simp only[e1,e2,e3,e4,e5,Q1,seval]
  clear e1 e2 e3 e4 e5
  rintro env _ _ ⟨rfl,e1,e2,e3,e4,e5,e6,rfl⟩
  refine Qb (fun env ds B=>∃v2 τ2,ds=[]∧env 1=.ptr p 0∧env 2=.ptr r 0∧env 3=v∧env 4=i64 i∧env 5=.ptr d 0∧env 6=v2∧B d=some (.cells [.str pn,.str pi,.slice 4 ls.length (ls.flatMap Loc.cells) none,.slice 13 es.length (es.flatMap Edge.cells) none])∧B p=some (.cells [.str n,.slice 1 cl.length (cl.flatMap Zp) (some t1),.slice 4 vs.length (vs.flatMap Var.cells) (some t2),.slice 3 ch.length (ch.flatMap Chan.cells) (some t3),.slice 3 fs.length (fs.flatMap Func.cells) none,.slice 4 ps.length (ps.flatMap Proc.cells) none])∧B r=some (.cells [.str [],.raw (.slice none 0 0),.raw (.slice none 0 0),.raw (.slice none 0 0),.raw (.slice none 0 0),.raw (.slice none 0 0)])∧QU A B∧If 4 Loc.cells ls v2 τ2∧Tips A [] [some t1,some t2,some t3,τ,τ2,none] B) ?_ ?_
  ·simp only[Q1,seval]
   refine Xh ls.length (fun j env B=>env 1=.ptr p 0∧env 2=.ptr r 0∧env 3=v∧env 4=i64 i∧env 5=.ptr d 0∧env 7=i64 j∧B d=some (.cells [.str pn,.str pi,.slice 4 ls.length (ls.flatMap Loc.cells) none,.slice 13 es.length (es.flatMap Edge.cells) none])∧B p=some (.cells [.str n,.slice 1 cl.length (cl.flatMap Zp) (some t1),.slice 4 vs.length (vs.flatMap Var.cells) (some t2),.slice 3 ch.length (ch.flatMap Chan.cells) (some t3),.slice 3 fs.length (fs.flatMap Func.cells) none,.slice 4 ps.length (ps.flatMap Proc.cells) none])∧B r=some (.cells [.str [],.raw (.slice none 0 0),.raw (.slice none 0 0),.raw (.slice none 0 0),.raw (.slice none 0 0),.raw (.slice none 0 0)])∧QU A B∧∃v2 τ2,env 6=v2∧If 4 Loc.cells (ls.take j) v2 τ2∧Tips A [] [some t1,some t2,some t3,τ,τ2,none] B) ⟨e1,e2,e3,e4,e5,rfl,hd,hp,hr,hO,_,none,e6,.inl ⟨rfl,rfl,rfl⟩,hT⟩ ?_ ?_ ?_
   ·rintro j env B s hj ⟨e1,e2,e3,e4,e5,e7,hd,hp,hr,hO,v2,τ2,e6,hv2,hT⟩
    simp only[e1,e2,e3,e4,e5,e6,e7,hd,Q1,seval]
    exact VA ⟨hp,hr,hO,v2,τ2,rfl,hv2,hT⟩
   ·rintro j env B FR hj ⟨e1,e2,e3,e4,e5,e7,hd,hp,hr,hO,v2,τ2,e6,hv2,hT⟩ _
    have hd2:=Zg (enc:=Loc.cells) (sz:=4) (fun _=>rfl) hj
    have i2:(j:Int)<ls.length:=by omega
    have hw2:IntKind.i64.wrap ((j:Int)+1)=((j+1:Nat):Int):=by rw[Qe (by omega) (by omega)];simp
    have hlt:=z2 _ (cV hj)
    obtain⟨l,hl⟩:∃l,ls[j]=l:=⟨_,rfl⟩
    rw[hl]at hd2 hlt
    obtain⟨ln,lk,lv,lr⟩:=l
    simp only at hlt
    simp only[Loc.cells,Qr,cF,cI]at hd2
    simp only[e1,e2,e3,e4,e5,e6,e7,hd,hd2,i2,Q1,seval]
    intro q hq
    have hAq:=hO.gone hq
    have hd:=(Q8 B q (some (.cells [.str ln,i64 lk,.slice 4 lv.length (lv.flatMap Test.cells) none,i64 lr])) (Q6 hd hq)).trans hd
    have hp:=(Q8 B q (some (.cells [.str ln,i64 lk,.slice 4 lv.length (lv.flatMap Test.cells) none,i64 lr])) (Q6 hp hq)).trans hp
    have hr:=(Q8 B q (some (.cells [.str ln,i64 lk,.slice 4 lv.length (lv.flatMap Test.cells) none,i64 lr])) (Q6 hr hq)).trans hr
    have hO:=hO.set hAq (o:=some (.cells [.str ln,i64 lk,.slice 4 lv.length (lv.flatMap Test.cells) none,i64 lr])) (by simp)
    have hT:=hT.new (some (.cells [.str ln,i64 lk,.slice 4 lv.length (lv.flatMap Test.cells) none,i64 lr])) hq
    have hq:(B.upd q (some (.cells [.str ln,i64 lk,.slice 4 lv.length (lv.flatMap Test.cells) none,i64 lr]))) q=some (.cells [.str ln,i64 lk,.slice 4 lv.length (lv.flatMap Test.cells) none,i64 lr]):=Q0 ..
    generalize B.upd q (some (.cells [.str ln,i64 lk,.slice 4 lv.length (lv.flatMap Test.cells) none,i64 lr]))=B at*
    refine UM hT (i:=5) (by simp) hO (by simp) fun t6 B hT hO qf=> ?_
    have hd:=qf _ _ hd
    have hp:=qf _ _ hp
    have hr:=qf _ _ hr
    have hq:=qf _ _ hq
    simp only[hq,Qx,Q1,seval]
    refine Uf hT (i:=5) rfl hO (by simp) (by omega) (V9 fun _=>rfl) fun t6 B hT hO qf=> ?_
    have hd:=qf _ _ hd (by simp)
    have hp:=qf _ _ hp (by simp)
    have hr:=qf _ _ hr (by simp)
    have hq:=qf _ _ hq (by simp)
    have ndq:d≠q:=fun e=>by subst e;rw[hd]at hq;cases hq
    have npq:p≠q:=fun e=>by subst e;rw[hp]at hq;cases hq
    have nrq:r≠q:=fun e=>by subst e;rw[hr]at hq;cases hq
    simp only[hq,Q0,Q1,seval]
    have hd:=(Q8 B q (some (.cells [.str ln,i64 lk,.slice 4 lv.length (lv.flatMap Test.cells) (some t6),i64 lr])) ndq).trans hd
    have hp:=(Q8 B q (some (.cells [.str ln,i64 lk,.slice 4 lv.length (lv.flatMap Test.cells) (some t6),i64 lr])) npq).trans hp
    have hr:=(Q8 B q (some (.cells [.str ln,i64 lk,.slice 4 lv.length (lv.flatMap Test.cells) (some t6),i64 lr])) nrq).trans hr
    have hO:=hO.set hAq (o:=some (.cells [.str ln,i64 lk,.slice 4 lv.length (lv.flatMap Test.cells) (some t6),i64 lr])) (by simp)
    have hT:=(M8 hT 5).loc (some (.cells [.str ln,i64 lk,.slice 4 lv.length (lv.flatMap Test.cells) (some t6),i64 lr])) hq (by simp)
    clear hq
    generalize B.upd q (some (.cells [.str ln,i64 lk,.slice 4 lv.length (lv.flatMap Test.cells) (some t6),i64 lr]))=B at*
    refine QW (cs:=[.str ln,i64 lk,.slice 4 lv.length (lv.flatMap Test.cells) (some t6),i64 lr]) (J5 _ _ rfl rfl) fun t ht=> ?_
    simp only[e6,Qx,Q1,seval]
    refine Ko (enc:=Loc.cells) (y:=ls[j]) (i:=4) hv2 (hT.new (some .tip) ht) rfl (hO.set (hO.gone ht) (by simp)) (by simp) (by simp;omega) rfl (by rw[hl];exact .cons (Wk.refl _) (.cons (Wk.refl _) (.cons Jt (.cons (Wk.refl _) .nil)))) fun v' τ' B' q1 q2 q3 q4=> ?_
    have hd:=q4 _ _ ((Q8 B t (some .tip) (Q6 hd ht)).trans hd) (by simp)
    have hp:=q4 _ _ ((Q8 B t (some .tip) (Q6 hp ht)).trans hp) (by simp)
    have hr:=q4 _ _ ((Q8 B t (some .tip) (Q6 hr ht)).trans hr) (by simp)
    simp only[e1,e2,e3,e4,e5,e7,hw2,Q1,seval]
    exact⟨hd,hp,hr,q3,_,τ',rfl,by rw[dJ hj];exact q1,q2⟩
   ·rintro env B ⟨e1,e2,e3,e4,e5,e7,hd,hp,hr,hO,v2,τ2,e6,hv2,hT⟩
    rw[fT]at hv2
    simp only[Q1,seval]
    exact⟨v2,τ2,e1,e2,e3,e4,e5,e6,hd,hp,hr,hO,hv2,hT⟩
  clear e1 e2 e3 e4 e5 e6 hd hp hr hO hT
  rintro env _ B ⟨v2,τ2,rfl,e1,e2,e3,e4,e5,e6,hd,hp,hr,hO,hv2,hT⟩
  simp only[e1,e2,e3,e4,e5,e6,hd,Q1,seval]
  refine Q3 (i0 _) ?_
  have npd:p≠d:=fun e=>by subst e;rw[hp]at hd;cases hd
  have nrd:r≠d:=fun e=>by subst e;rw[hr]at hd;cases hd
  simp only[e3,e4,e5,hd,hv2.cells,hv2.one,Q0,Q1,seval]
  have hp:=(Q8 B d (some (.cells [.str pn,.str pi,v2,.slice 13 es.length (es.flatMap Edge.cells) none])) npd).trans hp
  have hr:=(Q8 B d (some (.cells [.str pn,.str pi,v2,.slice 13 es.length (es.flatMap Edge.cells) none])) nrd).trans hr
  have hO:=hO.set hAd (o:=some (.cells [.str pn,.str pi,v2,.slice 13 es.length (es.flatMap Edge.cells) none])) (by simp)
  have hT:=(M8 hT 4).loc (some (.cells [.str pn,.str pi,v2,.slice 13 es.length (es.flatMap Edge.cells) none])) hd (by simp)
  clear hd
  generalize B.upd d (some (.cells [.str pn,.str pi,v2,.slice 13 es.length (es.flatMap Edge.cells) none]))=B at*
  refine QW (cs:=[.str pn,.str pi,v2,.slice 13 es.length (es.flatMap Edge.cells) none]) (J5 _ _ rfl rfl) fun t ht=> ?_
  simp only[e3,Qx,Q1,seval]
  refine Ko (enc:=Proc.cells) (y:=ps[i]) (i:=3) hv (hT.new (some .tip) ht) rfl (hO.set (hO.gone ht) (by simp)) (by simp) (by simp;omega) (by simp only[dU,lP,hv2.one];rfl) (by rw[hx];exact .cons (Wk.refl _) (.cons (Wk.refl _) (.cons hv2.wk (.cons (Wk.refl _) .nil)))) fun v' τ' B' q1 q2 q3 q4=> ?_
  have hp:=q4 _ _ ((Q8 B t (some .tip) (Q6 hp ht)).trans hp) (by simp)
  have hr:=q4 _ _ ((Q8 B t (some .tip) (Q6 hr ht)).trans hr) (by simp)
  simp only[e1,e2,e4,hw,Q1,seval]
  exact⟨hp,hr,q3,_,τ',rfl,by rw[dJ hi];exact q1,q2⟩
 ·rintro env B ⟨e1,e2,e4,hp,hr,hO,v,τ,e3,hv,hT⟩
  rw[fT]at hv
  simp only[e1,e2,e3,hp,hr,hv.cells,hv.one,Q5 hrp,Q0,Q1,seval]
  exact YE (Y9 (.cons (Wk.refl _) (.cons Jt (.cons Jt (.cons Jt (.cons (Wk.refl _) (.cons hv.wk .nil))))))) ((hO.set hAp (by simp)).set hAr (by simp))
end
def C8:LC:=.seq (.ops [o 0 (mc (.bool false))])<|.seq (.ops [⟨some 10,ca 9 [.const (.string ⟨#[109,111,100,101,108,32,109,59,32,99,108,111,99,107,32,120,59,32,112,114,111,99,101,115,115,32,80,32,105,110,105,116,32,65,32,123,32,108,111,99,32,65,32,105,110,118,32,120,32,60,61,32,50,59,32,101,100,103,101,32,65,32,45,62,32,65,32,119,104,101,110,32,120,32,61,61,32,50,32,114,101,115,101,116,32,120,32,61,32,48,59,32,125]⟩)],none⟩,o 9 (mv 10),o 11 (.ext (t 9) 0),o 12 (.ext (t 9) 1),o 13 (.ext (t 9) 2),⟨some 1,.alloc 29 [.string ⟨#[]⟩,.slice none 0 0,.slice none 0 0,.slice none 0 0,.slice none 0 0,.slice none 0 0],none⟩,e (.store 6 (t 1) (t 11)),o 2 (mv 12),o 3 (mv 13)])<|.seq (.ops [o 15 (la 6 1),o 16 (ca 14 [t 15]),o 14 (mv 16),o 17 (.ext (t 14) 0),o 18 (.ext (t 14) 1),o 4 (mv 17),o 5 (mv 18)])<|.seq (.ops [⟨some 20,ca 9 [.const (.string ⟨#[109,111,100,101,108,32,109,59,32,118,97,114,32,118,32,105,110,32,49,46,46,50,59]⟩)],none⟩,o 19 (mv 20),o 21 (.ext (t 19) 0),o 22 (.ext (t 19) 1),o 23 (.ext (t 19) 2),⟨some 6,.alloc 29 [.string ⟨#[]⟩,.slice none 0 0,.slice none 0 0,.slice none 0 0,.slice none 0 0,.slice none 0 0],none⟩,e (.store 6 (t 6) (t 21)),o 7 (mv 22),o 8 (mv 23)])<|.seq (.ops [o 24 (mv 3),o 25 (bk .eql 24 (0)),o 26 (mv 25),gt 26 27 (mv 2),gt 26 28 (bk .eql 27 (0)),o 29 (pa 26 28),o 30 (mv 29),gt 30 31 (mv 5),gt 30 32 (bk .eql 31 (0)),o 33 (pa 30 32),o 34 (mv 33),gt 34 35 (mv 4),⟨some 36,.bin .eql .num (t 35) (.const (.string ⟨#[109,111,100,101,108,32,109,59,10,99,108,111,99,107,32,120,59,10,112,114,111,99,101,115,115,32,80,32,105,110,105,116,32,65,32,123,10,9,108,111,99,32,65,32,105,110,118,32,120,32,60,61,32,50,59,10,9,101,100,103,101,32,65,32,45,62,32,65,32,119,104,101,110,32,120,32,60,61,32,50,32,38,38,32,120,32,62,61,32,50,32,114,101,115,101,116,32,120,32,61,32,48,59,10,125,10]⟩)),some (34,true)⟩,o 37 (pa 34 36),o 38 (mv 37),gt 38 39 (mv 8),gt 38 40 (bk .eql 39 (80)),o 41 (pa 38 40),o 42 (mv 41),gt 42 43 (mv 7),gt 42 44 (bk .eql 43 (22)),o 45 (pa 42 44),o 46 (mv 45),gt 46 47 (la 6 1),gt 46 48 (ca 16 [t 47]),gt 46 49 (bk .eql 48 (0)),o 50 (pa 46 49),o 51 (mv 50),gt 51 52 (la 6 1),gt 51 53 (la 6 1),gt 51 54 (ca 18 [t 52,t 53]),o 55 (pa 51 54),o 56 (mv 55),gt 56 57 (la 6 1),⟨some 58,.build [.string ⟨#[]⟩,.slice none 0 0,.slice none 0 0,.slice none 0 0,.slice none 0 0,.slice none 0 0] [],some (56,true)⟩,gt 56 59 (ca 18 [t 57,t 58]),gt 56 60 (.un .not (t 59)),o 61 (pa 56 60),o 62 (mv 61),⟨some 63,.build [.string ⟨#[]⟩,.slice none 0 0,.slice none 0 0,.slice none 0 0,.slice none 0 0,.slice none 0 0] [],some (62,true)⟩,gt 62 64 (ca 16 [t 63]),gt 62 65 (bk .eql 64 (2)),o 66 (pa 62 65),o 0 (mv 66)])<|.ret
theorem l8:Qa Tryz.prog 8=some ⟨67,false,[.tmp 0],C8⟩:=by kernel_rfl
def C5:LC:=.seq (.ops [o 2 (.box 29 (t 0)),o 3 (.box 29 (t 1)),o 4 (mc (.bool false))])<|.seq (.seq (.ops [o 6 (ca 8 []),o 7 (.un .not (t 6))])<|.cond (t 7) (.seq (.ops [o 4 (mc (.bool false))])<|.ret)<|.skip)<|.seq (.seq (.ops [o 8 (la 6 2),o 9 (ca 12 [t 8]),o 10 (mv 9),gf 10 11 (la 6 3),gf 10 12 (ca 12 [t 11]),o 13 (po 10 12)])<|.cond (t 13) (.seq (.ops [o 4 (mc (.bool true))])<|.ret)<|.skip)<|.seq (.ops [o 14 (la 6 2),o 15 (la 6 3),o 16 (ca 11 [t 14,t 15]),o 5 (mv 16)])<|.seq (.draw (
w 0 (o 17<|la 6 2)<|w 1 (o 18<|la 6 3)<|v 3 (o 20<|mv 5)<|.eff (o 19<|ca 18 [t 17,t 18]) [] (
v 4 (o 21 (.bin .eql .bool (t 19) (t 20)))<|v 5 (o 22<|mv 21)<|w 6 (gt 22 23 (la 6 3))<|w 7 (gt 22 24 (la 6 2))<|v 9 (gt 22 26 (mv 5))<|.eff (gt 22 25 (ca 18 [t 23,t 24])) [] (
v 10 (gt 22 27 (.bin .eql .bool (t 25) (t 26)))<|v 11 (o 28<|pa 22 27)<|v 12 (o 29<|mv 28)<|w 13 (gt 29 30 (la 6 2))<|w 14 (gt 29 31 (la 6 2))<|.eff (gt 29 32 (ca 13 [t 31])) [13] (
.eff (gt 29 33 (ca 18 [t 30,t 32])) [] (
v 17 (o 34<|pa 29 33)<|v 18 (o 4<|mv 34)<|.done) (
.nil)) (
.nil)) (
.nil)) (
.nil)))<|.ret
theorem l5:Qa Tryz.prog 5=some ⟨35,false,[.tmp 4],C5⟩:=by kernel_rfl
end Go.Proofs.YtcbjbgaefighcaaGreatDoor
