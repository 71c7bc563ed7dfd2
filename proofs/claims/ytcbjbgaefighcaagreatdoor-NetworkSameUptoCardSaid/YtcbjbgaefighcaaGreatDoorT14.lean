/- Part 14 of the proof. -/
import Derived.Test.YtcbjbgaefighcaaGreatDoorT0
import Derived.Test.YtcbjbgaefighcaaGreatDoorT8
import Derived.Test.YtcbjbgaefighcaaGreatDoorT9
import Derived.Test.YtcbjbgaefighcaaGreatDoorT12
import Derived.Test.YtcbjbgaefighcaaGreatDoorT13
set_option linter.all false
namespace Go.Proofs.YtcbjbgaefighcaaGreatDoor
open Go Go.Ax Go.Proofs
def Jh (s:List UInt8)(a b:Nat)(k:Int):AObj:=.cells [.str s,i64 a,i64 b,i64 k]
def X3:Bs:=[43,45,42,47,37,60,62,61,33,63,58,59,44,46,40,41,123,125]
def J7 (u:Bs):Int:=match u with
 |[]=>0
 |c::r=>if U8 c then 1 else if JP c then 2 else if(c::r).take 2∈Vq∨c∈X3 then 3 else 4
theorem VY:∀(l:Bs) (c:UInt8),0≤Lib.indexByte l c↔c∈l
 |[],c=>by simp [Lib.indexByte]
 |x::l,c=>by
  have ih:=VY l c
  have hge:=Lib.indexByte_ge l c
  simp only[Lib.indexByte]
  split
  ·rename_i h;simp [beq_iff_eq.1 h]
  ·rename_i h
   have hne:c≠x:=fun e=>by subst e;simp at h
   split
   ·rename_i h1;simp only[beq_iff_eq]at h1
    have:c∉l:=fun hm=>by have:=ih.2 hm;omega
    simp [hne,this]
   ·rename_i h1;simp only[beq_iff_eq]at h1
    have:c∈l:=ih.1 (by omega)
    simp [this];omega
section
variable (G:Nat→Option (List AV))
theorem FW {A:Q2}{r:Nat}{s:List UInt8}{a b:Nat}{k:Int}(hr:A r=some (Jh s a b k))(hb:b≤s.length)(hs:s.length<2^62)(p:Nat)(hp:p=b+QG false (s.drop b)):
 Qz Tryz.prog G 214 [.ptr r 0] A Zt (A.upd r (some (Jh s p (p+Z4 (s.drop p)) (J7 (s.drop p))))):=by
 refine Q4 l214 (fE rfl) ?_
 unfold ER
 refine Qa (fun env ds A'=>env 0=.ptr r 0∧env 2=i64 b∧ds=[]∧A'=A) ?_ ?_
 ·simp only[hr,Jh,Zx,seval]
 rintro env ds A' ⟨h0,h2,rfl,rfl⟩
 refine Qa (fun env ds A''=>env 0=.ptr r 0∧env 2=i64 p∧ds=[]∧A''=A') ?_ ?_
 ·rw[YJ]
  refine Qt (fun n env ds A1=>∃i:Nat,b≤i∧i≤s.length∧n=s.length - i∧env 0=.ptr r 0∧env 2=i64 i∧ds=[]∧A1=A'∧p=i+QG false (s.drop i)) (s.length - b) ⟨b,fG _,hb,rfl,h0,h2,rfl,rfl,hp⟩ ?_
  rintro n env ds A1 ⟨i,hbi,his,rfl,h0,h2,rfl,rfl,hpi⟩
  simp only[hr,Jh,h0,h2,Zx,seval]
  refine⟨fun h=> ?_,fun h=> ?_⟩
  ·have hlt:i<s.length:=by omega
   refine⟨⟨by omega,by omega,by omega⟩,?_⟩
   have e1:List.take ((s.length:Int).toNat - (i:Int).toNat) (List.drop (i:Int).toNat s)=s.drop i:=by
    rw[dX (by simp)];simp
   simp only[e1,Zx,seval]
   refine Q3 (f75 G (s.drop i) [47,47] A1) ?_
   cases hpre:[47,47].isPrefixOf (s.drop i)with
   |true=>
    simp only[hr,Jh,h0,h2,Zx,seval]
    refine⟨⟨by omega,by omega,by omega⟩,?_⟩
    simp only[e1,Zx,seval]
    refine Q3 (Tb G (s.drop i) 10 A1) ?_
    simp only[hr,Jh,h0,h2,Zx,seval]
    obtain⟨hb1,hb2⟩:=I5 hpre
    have hble:=JY (s.drop i) true
    simp only[dW]at hble
    refine⟨fun hn=> ?_,fun hn=> ?_⟩
    ·have hx:=WJ _ hn
     simp only[dW]at hx
     refine⟨0,by omega,s.length,hb,fG _,by omega,?_⟩
     rw[Qf (n:=(s.length:Int) - i) (by omega) (by omega),Qf (by omega) (by omega)]
     have e2:(i:Int)+((s.length:Int) - i)=s.length:=by omega
     simp only[e2,true_and,List.drop_length,QG,fS]
     omega
    ·obtain⟨k,hk⟩:∃k:Nat,Lib.indexByte (s.drop i) 10=k:=⟨(Lib.indexByte (s.drop i) 10).toNat,by omega⟩
     have hx:=WI _ k hk
     rw[lC]at hx
     rw[hk]at hb2
     refine⟨s.length - (i+k),by omega,i+k,by omega,by omega,rfl,?_⟩
     rw[hk,Qf (by omega) (by omega)]
     simp only[Int.natCast_add,true_and]
     omega
   |false=>
    simp only[hr,Jh,h0,h2,Zx,seval]
    refine Jq (v:=u8 s[i]) (by simp [hlt]) ?_
    simp only[hr,Jh,h0,h2,Zx,seval]
    refine Q3 (Tb G [32,9,13,10] s[i] A1) ?_
    simp only[hr,Jh,h0,h2,Zx,seval]
    have hone:=Hm (dP hlt) hpre
    refine⟨fun hn=> ?_,fun hn=> ?_⟩
    ·rw[(UT _).1 hn]at hone
     simp only[cB,if_false]at hone
     simp only[hpi,hone,fS,true_and]
    ·have hw:I1 s[i]=true:=by
      cases hw:I1 s[i]with
      |true=>rfl
      |false=>exact absurd ((UT _).2 hw) hn
     rw[hw,fC rfl]at hone
     refine⟨s.length - (i+1),by omega,i+1,by omega,by omega,rfl,?_⟩
     rw[Qf (by omega) (by omega)]
     simp only[Int.natCast_add,Int.cast_ofNat_Int,true_and]
     omega
  ·have:i=s.length:=by omega
   subst this
   simp only[List.drop_length,QG,fS]at hpi
   simp [hpi]
 rintro env ds A'' ⟨h0,h2,rfl,rfl⟩
 refine Qa (fun env ds A'=>env 0=.ptr r 0∧env 2=i64 p∧ds=[]∧A'=A''.upd r (some (Jh s p p 0))) ?_ ?_
 ·simp only[show A'' r=some (.cells [.str s,i64 a,i64 b,i64 k])from hr,h0,h2,ZW,ZV,YB,YD,YC,Qp,Ql,reduceIte,reduceCtorEq,Nat.reduceEqDiff,Nat.reduceAdd,Nat.reduceMul,Nat.reduceLeDiff,Nat.reduceSub,Int.reduceLE,Int.reduceLT,Int.reduceToNat,cA,cB,true_and,and_true,Z1]
  rfl
 rintro env ds A' ⟨h0,h2,rfl,rfl⟩
 have hr':(A''.upd r (some (Jh s p p 0))) r=some (Jh s p p 0):=Q0 _ _ _
 have hfin:A''.upd r (some (Jh s p (p+Z4 (s.drop p)) (J7 (s.drop p))))=(A''.upd r (some (Jh s p p 0))).upd r (some (Jh s p (p+Z4 (s.drop p)) (J7 (s.drop p)))):=by rw[QV]
 rw[hfin]
 generalize A''.upd r (some (Jh s p p 0))=B at*
 have hps:p≤s.length:=by
  have:=JY (s.drop b) false
  simp only[dW]at this
  omega
 have hrc:B r=some (.cells [.str s,i64 p,i64 p,i64 0]):=hr'
 by_cases hpl:p=s.length
 ·have e1:Z4 (s.drop p)=0:=by rw[hpl];simp [Z4]
  have e2:J7 (s.drop p)=0:=by rw[hpl];simp [J7]
  rw[e1,e2,fS]
  simp only[hrc,h0,h2,ZW,ZV,YB,YD,YC,Qp,Ql,reduceIte,reduceCtorEq,Nat.reduceEqDiff,Nat.reduceAdd,Nat.reduceMul,Nat.reduceLeDiff,Nat.reduceSub,Int.reduceLE,Int.reduceLT,Int.reduceToNat,cA,cB,true_and,and_true,Z1]
  refine⟨fun _=> ?_,fun h=>absurd (by rw[hpl]) h⟩
  refine Qv rfl ?_
  rw[Y8 hr']
  exact Ve.refl _
 have hlt:p<s.length:=by omega
 have hdp:s.drop p=s[p]::s.drop (p+1):=dP hlt
 refine Qa (fun env ds A'=>env 0=.ptr r 0∧env 2=i64 p∧ds=[]∧A'=B) ?_ ?_
 ·simp only[hrc,h0,h2,ZW,ZV,YB,YD,YC,Qp,Ql,reduceIte,reduceCtorEq,Nat.reduceEqDiff,Nat.reduceAdd,Nat.reduceMul,Nat.reduceLeDiff,Nat.reduceSub,Int.reduceLE,Int.reduceLT,Int.reduceToNat,cA,cB,true_and,and_true,Z1]
  exact⟨fun h=>by omega,fun _=>by simp⟩
 rintro env ds A' ⟨h0,h2,rfl,rfl⟩
 refine Qa (fun env ds B'=>env 0=.ptr r 0∧env 2=i64 p∧env 4=u8 s[p]∧ds=[]∧B'=A') ?_ ?_
 ·simp only[hrc,h0,h2,ZW,ZV,YB,YD,YC,Qp,Ql,reduceIte,reduceCtorEq,Nat.reduceEqDiff,Nat.reduceAdd,Nat.reduceMul,Nat.reduceLeDiff,Nat.reduceSub,Int.reduceLE,Int.reduceLT,Int.reduceToNat,cA,cB,true_and,and_true,Z1]
  refine Jq (v:=u8 s[p]) (by simp [hlt]) ?_
  simp only[hrc,h0,h2,ZW,ZV,YB,YD,YC,Qp,Ql,reduceIte,reduceCtorEq,Nat.reduceEqDiff,Nat.reduceAdd,Nat.reduceMul,Nat.reduceLeDiff,Nat.reduceSub,Int.reduceLE,Int.reduceLT,Int.reduceToNat,cA,cB,true_and,and_true,Z1]
 rintro env ds B ⟨h0,h2,h4,rfl,rfl⟩
 refine Qa (fun env ds A'=>env 0=.ptr r 0∧env 2=i64 (p+Z4 (s.drop p))∧ds=[]∧(A'=B.upd r (some (Jh s p p (J7 (s.drop p))))∨∃t,B t=none∧A'=(B.upd t (some .tip)).upd r (some (Jh s p p (J7 (s.drop p)))))) ?_ ?_
 ·simp only[h0,h2,h4,ZW,ZV,YB,YD,YC,Qp,Ql,reduceIte,reduceCtorEq,Nat.reduceEqDiff,Nat.reduceAdd,Nat.reduceMul,Nat.reduceLeDiff,Nat.reduceSub,Int.reduceLE,Int.reduceLT,Int.reduceToNat,cA,cB,true_and,and_true,Z1]
  refine Q3 (TS G s[p] B) ?_
  cases hL:U8 s[p]with
  |true=>
   have hk:J7 (s.drop p)=1:=by simp only[J7,hdp,hL,if_true]
   rw[hk]
   simp only[hrc,h0,h2,Zx,seval]
   have hrc1:(B.upd r (some (Jh s p p 1))) r=some (.cells [.str s,i64 p,i64 p,i64 1]):=Q0 ..
   change Cx.run _ _ _ _ _ (B.upd r (some (Jh s p p 1)))
   refine Qt (fun n env ds A1=>∃i:Nat,p≤i∧i≤s.length∧n=s.length - i∧env 0=.ptr r 0∧env 2=i64 i∧ds=[]∧A1=B.upd r (some (Jh s p p 1))∧((s.drop p).take (i - p)).all YI=true) (s.length - p)
    ⟨p,fG _,hps,rfl,by simp [Jf,h0],by simp [Jf,h2],rfl,rfl,by simp⟩ ?_
   rintro n env ds A1 ⟨i,hpi,his,rfl,h0,h2,rfl,rfl,hall⟩
   have htok:(∀c,(s.drop p)[i - p]? =some c→YI c=false)→Z4 (s.drop p)=i - p:=fun hst=>by
    have:=VD (by simp;omega) hall hst
    simp only[Z4,hdp,hL,if_true]
    rw[←hdp];exact this
   simp only[hrc1,h0,h2,Zx,seval]
   refine⟨fun h=> ?_,fun h=> ?_⟩
   ·have hlt':i<s.length:=by omega
    refine Jq (v:=u8 s[i]) (by simp [hlt']) ?_
    simp only[hrc1,h0,h2,Zx,seval]
    refine Q3 (TS G s[i] _) ?_
    have hgi:(s.drop p)[i - p]? =some s[i]:=by
     rw[List.getElem?_drop,show p+(i - p)=i from by omega];simp [hlt']
    have hgo:YI s[i]=true→∃m,m<s.length - i∧∃i_1:Nat,p≤i_1∧i_1≤s.length∧m=s.length - i_1∧i64 ((i:Int)+1)=i64 i_1∧(List.take (i_1 - p) (List.drop p s)).all YI=true:=fun hc=>by
     refine⟨s.length - (i+1),by omega,i+1,by omega,by omega,rfl,by simp,?_⟩
     rw[show i+1 - p=(i - p)+1 from by omega]
     exact UU hall hgi hc
    have hin:YI s[i]=false→i64 i=i64 (p+Z4 (s.drop p)):=fun hc=>by
     rw[htok (fun c hc'=>by rw[hgi]at hc';simp only[cA]at hc';rw[←hc'];exact hc)]
     simp only[AV.raw.injEq,Value.int.injEq,true_and]
     omega
    cases hl:U8 s[i]with
    |true=>
     simp only[hrc1,h0,h2,Zx,seval]
     rw[Qf (by omega) (by omega)]
     exact hgo (by simp [YI,hl])
    |false=>
     simp only[hrc1,h0,h2,Zx,seval]
     refine Jq (v:=u8 s[i]) (by simp [hlt']) ?_
     simp only[hrc1,h0,h2,Zx,seval]
     refine Q3 (TR G s[i] _) ?_
     cases hd:JP s[i]with
     |true=>
      simp only[hrc1,h0,h2,Zx,seval]
      rw[Qf (by omega) (by omega)]
      exact hgo (by simp [YI,hd])
     |false=>
      simp only[hrc1,h0,h2,Zx,seval]
      refine Jq (v:=u8 s[i]) (by simp [hlt']) ?_
      simp only[hrc1,h0,h2,Zx,seval]
      have h95:((s[i].toNat:Int)==95)=(s[i]==95):=Mu s[i] 95
      refine⟨fun hc=> ?_,fun hc=> ?_⟩ <;> have hc:_=_:=h95.symm.trans (by first|exact beq_iff_eq.2 hc|exact beq_false_of_ne hc)
      ·rw[Qf (by omega) (by omega)]
       exact hgo (by simp [YI,hc])
      ·simp only[hin (by simp [YI,hl,hd,hc]),true_and,true_or,and_true]
   ·have:i=s.length:=by omega
    rw[htok (fun c hc=>by rw[fL (by simp;omega)]at hc;cases hc)]
    simp [this]
    omega
  |false=>
   simp only[h4,Zx,seval]
   refine Q3 (TR G s[p] B) ?_
   cases hD:JP s[p]with
   |true=>
    have hk:J7 (s.drop p)=2:=by simp only[J7,hdp,hL,hD,if_true,cB,if_false]
    rw[hk]
    simp only[hrc,h0,h2,Zx,seval]
    have hrc1:(B.upd r (some (Jh s p p 2))) r=some (.cells [.str s,i64 p,i64 p,i64 2]):=Q0 ..
    change Cx.run _ _ _ _ _ (B.upd r (some (Jh s p p 2)))
    refine Qt (fun n env ds A1=>∃i:Nat,p≤i∧i≤s.length∧n=s.length - i∧env 0=.ptr r 0∧env 2=i64 i∧ds=[]∧A1=B.upd r (some (Jh s p p 2))∧((s.drop p).take (i - p)).all JP=true) (s.length - p)
     ⟨p,fG _,hps,rfl,by simp [Jf,h0],by simp [Jf,h2],rfl,rfl,by simp⟩ ?_
    rintro n env ds A1 ⟨i,hpi,his,rfl,h0,h2,rfl,rfl,hall⟩
    have htok:(∀c,(s.drop p)[i - p]? =some c→JP c=false)→Z4 (s.drop p)=i - p:=fun hst=>by
     have:=VD (by simp;omega) hall hst
     simp only[Z4,hdp,hL,hD,if_true,cB,if_false]
     rw[←hdp];exact this
    simp only[hrc1,h0,h2,Zx,seval]
    refine⟨fun h=> ?_,fun h=> ?_⟩
    ·have hlt':i<s.length:=by omega
     refine Jq (v:=u8 s[i]) (by simp [hlt']) ?_
     simp only[hrc1,h0,h2,Zx,seval]
     refine Q3 (TR G s[i] _) ?_
     have hgi:(s.drop p)[i - p]? =some s[i]:=by
      rw[List.getElem?_drop,show p+(i - p)=i from by omega];simp [hlt']
     cases hd:JP s[i]with
     |true=>
      simp only[hrc1,h0,h2,Zx,seval]
      rw[Qf (by omega) (by omega)]
      refine⟨s.length - (i+1),by omega,i+1,by omega,by omega,rfl,by simp,?_⟩
      rw[show i+1 - p=(i - p)+1 from by omega]
      exact UU hall hgi hd
     |false=>
      simp only[hrc1,h0,h2,Zx,seval]
      rw[htok (fun c hc'=>by rw[hgi]at hc';simp only[cA]at hc';rw[←hc'];exact hd)]
      simp only[AV.raw.injEq,Value.int.injEq,true_and,and_true,true_or]
      omega
    ·have:i=s.length:=by omega
     rw[htok (fun c hc=>by rw[fL (by simp;omega)]at hc;cases hc)]
     simp [this]
     omega
   |false=>
    have htok:Z4 (s.drop p)=if(s.drop p).take 2∈Vq then 2 else 1:=by
     simp only[Z4,hdp,hL,hD,cB,if_false]
    have hkd:J7 (s.drop p)=if(s.drop p).take 2∈Vq∨s[p]∈X3 then 3 else 4:=by
     simp only[J7,hdp,hL,hD,cB,if_false]
    simp only[hrc,h0,h2,ZW,ZV,YB,YD,YC,Qp,Ql,reduceIte,reduceCtorEq,Nat.reduceEqDiff,Nat.reduceAdd,Nat.reduceMul,Nat.reduceLeDiff,Nat.reduceSub,Int.reduceLE,Int.reduceLT,Int.reduceToNat,cA,cB,true_and,and_true,Z1]
    refine⟨fun h1=> ?_,fun h1=> ?_⟩
    ·rw[Qf (by omega) (by omega)]at h1
     refine QU (cs:=Vq.map .str) (by kernel_rfl) fun t ht=> ?_
     have hne:r≠t:=fun e=>by subst e;rw[hr']at ht;cases ht
     have hrtc:(B.upd t (some .tip)) r=some (.cells [.str s,i64 p,i64 p,i64 0]):=by rw[Q5 hne,hrc]
     simp only[hrtc,h0,h2,ZW,ZV,YB,YD,YC,Qp,Ql,reduceIte,reduceCtorEq,Nat.reduceEqDiff,Nat.reduceAdd,Nat.reduceMul,Nat.reduceLeDiff,Nat.reduceSub,Int.reduceLE,Int.reduceLT,Int.reduceToNat,cA,cB,true_and,and_true,Z1]
     rw[Qf (n:=(p:Int)+2) (by omega) (by omega)]
     refine⟨by omega,?_⟩
     have e1:List.take (((p:Int)+2).toNat - (p:Int).toNat) (List.drop (p:Int).toNat s)=(s.drop p).take 2:=by
      rw[show((p:Int)+2).toNat - (p:Int).toNat=2 from by omega];simp
     rw[e1]
     refine Qh (Qq.wk (.cons J9 (.cons (Wk.refl _) .nil)) (f79 G Vq ((s.drop p).take 2) (B.upd t (some .tip)) (by decide))) ?_
     rintro o A' ⟨rfl,rfl⟩
     by_cases hm:(s.drop p).take 2∈Vq
     ·simp only[fA hm]
      simp only[hrtc,h0,h2,ZW,ZV,YB,YD,YC,Qp,Ql,reduceIte,reduceCtorEq,Nat.reduceEqDiff,Nat.reduceAdd,Nat.reduceMul,Nat.reduceLeDiff,Nat.reduceSub,Int.reduceLE,Int.reduceLT,Int.reduceToNat,cA,cB,true_and,and_true,Z1]
      rw[Qf (by omega) (by omega),htok,fC hm,hkd,fC (.inl hm)]
      exact⟨rfl,.inr ⟨t,ht,rfl⟩⟩
     ·simp only[fB hm]
      simp only[hrtc,h0,h2,h4,ZW,ZV,YB,YD,YC,Qp,Ql,reduceIte,reduceCtorEq,Nat.reduceEqDiff,Nat.reduceAdd,Nat.reduceMul,Nat.reduceLeDiff,Nat.reduceSub,Int.reduceLE,Int.reduceLT,Int.reduceToNat,cA,cB,true_and,and_true,Z1]
      refine Q3 (Tb G X3 s[p] _) ?_
      simp only[h0,h2,h4,ZW,ZV,YB,YD,YC,Qp,Ql,reduceIte,reduceCtorEq,Nat.reduceEqDiff,Nat.reduceAdd,Nat.reduceMul,Nat.reduceLeDiff,Nat.reduceSub,Int.reduceLE,Int.reduceLT,Int.reduceToNat,cA,cB,true_and,and_true,Z1]
      refine⟨fun hn=> ?_,fun hn=> ?_⟩
      ·have hmem:=(VY _ _).1 hn
       simp only[h0,h2,h4,hrtc,ZW,ZV,YB,YD,YC,Qp,Ql,reduceIte,reduceCtorEq,Nat.reduceEqDiff,Nat.reduceAdd,Nat.reduceMul,Nat.reduceLeDiff,Nat.reduceSub,Int.reduceLE,Int.reduceLT,Int.reduceToNat,cA,cB,true_and,and_true,Z1]
       rw[Qf (by omega) (by omega),hkd,fC (.inr hmem),htok,fD hm]
       exact⟨rfl,.inr ⟨t,ht,rfl⟩⟩
      ·have hmem:s[p]∉X3:=fun h=>hn ((VY _ _).2 h)
       simp only[h0,h2,h4,hrtc,ZW,ZV,YB,YD,YC,Qp,Ql,reduceIte,reduceCtorEq,Nat.reduceEqDiff,Nat.reduceAdd,Nat.reduceMul,Nat.reduceLeDiff,Nat.reduceSub,Int.reduceLE,Int.reduceLT,Int.reduceToNat,cA,cB,true_and,and_true,Z1]
       rw[Qf (by omega) (by omega),hkd,fD (by simp [hm,hmem]),htok,fD hm]
       exact⟨rfl,.inr ⟨t,ht,rfl⟩⟩
    ·rw[Qf (by omega) (by omega)]at h1
     have hm:(s.drop p).take 2∉Vq:=fun hm=>by
      have hl1:((s.drop p).take 2).length≤1:=by simp;omega
      have hl2:∀x∈Vq,x.length=2:=by decide
      have:=hl2 _ hm
      omega
     simp only[h0,h2,h4,ZW,ZV,YB,YD,YC,Qp,Ql,reduceIte,reduceCtorEq,Nat.reduceEqDiff,Nat.reduceAdd,Nat.reduceMul,Nat.reduceLeDiff,Nat.reduceSub,Int.reduceLE,Int.reduceLT,Int.reduceToNat,cA,cB,true_and,and_true,Z1]
     refine Q3 (Tb G X3 s[p] _) ?_
     simp only[h0,h2,h4,ZW,ZV,YB,YD,YC,Qp,Ql,reduceIte,reduceCtorEq,Nat.reduceEqDiff,Nat.reduceAdd,Nat.reduceMul,Nat.reduceLeDiff,Nat.reduceSub,Int.reduceLE,Int.reduceLT,Int.reduceToNat,cA,cB,true_and,and_true,Z1]
     refine⟨fun hn=> ?_,fun hn=> ?_⟩
     ·have hmem:=(VY _ _).1 hn
      simp only[h0,h2,h4,hrc,ZW,ZV,YB,YD,YC,Qp,Ql,reduceIte,reduceCtorEq,Nat.reduceEqDiff,Nat.reduceAdd,Nat.reduceMul,Nat.reduceLeDiff,Nat.reduceSub,Int.reduceLE,Int.reduceLT,Int.reduceToNat,cA,cB,true_and,and_true,Z1]
      rw[Qf (by omega) (by omega),hkd,fC (.inr hmem),htok,fD hm]
      exact⟨rfl,.inl rfl⟩
     ·have hmem:s[p]∉X3:=fun h=>hn ((VY _ _).2 h)
      simp only[h0,h2,h4,hrc,ZW,ZV,YB,YD,YC,Qp,Ql,reduceIte,reduceCtorEq,Nat.reduceEqDiff,Nat.reduceAdd,Nat.reduceMul,Nat.reduceLeDiff,Nat.reduceSub,Int.reduceLE,Int.reduceLT,Int.reduceToNat,cA,cB,true_and,and_true,Z1]
      rw[Qf (by omega) (by omega),hkd,fD (by simp [hm,hmem]),htok,fD hm]
      exact⟨rfl,.inl rfl⟩
 ·rintro env ds A' ⟨h0,h2,rfl,rfl|⟨t,ht,rfl⟩⟩
  ·simp only[Q0,h0,h2,Jh,ZW,ZV,YB,YD,YC,Qp,Ql,reduceIte,reduceCtorEq,Nat.reduceEqDiff,Nat.reduceAdd,Nat.reduceMul,Nat.reduceLeDiff,Nat.reduceSub,Int.reduceLE,Int.reduceLT,Int.reduceToNat,cA,cB,true_and,and_true,Z1]
   exact Qv rfl (Ve.refl _)
  ·simp only[Q0,h0,h2,Jh,ZW,ZV,YB,YD,YC,Qp,Ql,reduceIte,reduceCtorEq,Nat.reduceEqDiff,Nat.reduceAdd,Nat.reduceMul,Nat.reduceLeDiff,Nat.reduceSub,Int.reduceLE,Int.reduceLT,Int.reduceToNat,cA,cB,true_and,and_true,Z1]
   refine Qv rfl (QJ.wk (x:=Jh s p (p+Z4 (s.drop p)) (J7 (s.drop p))) ?_ (Q0 ..) (by intros;simp [Jh]))
   exact((QJ.refl _ _).set ht (by simp)).at _
end
def rk (s u:Bs):AObj:=Jh s (s.length - u.length) (s.length - u.length+Z4 u) (J7 u)
theorem Xk (s u:Bs):rk s u=.cells [.str s,i64 (s.length - u.length:Nat),i64 (s.length - u.length+Z4 u:Nat),i64 (J7 u)]:=rfl
def Jv {α:Type}(r:Nat)(s:Bs)(A:Q2)(enc:α→AV):Res α→Out→Q2→Prop
 | .ok a u,o,A'=>o=.ret (enc a)∧A'=A.upd r (some (rk s u))
 | .bad u,o,A'=>o=.pan (Vu 227 s u)∧A'=A.upd r none
section
variable {P:Program}{G:Nat→Option (List AV)}{α β:Type}{f:FuncId}{first args cap:List AV}{A A0:Q2}{r:Nat}{s:Bs}{enc:α→AV}{enc0:β→AV}{res:List LRes}
 {d:Option Nat}{l:List LInstr}{st:List Fr}{env:Qn}
theorem QY {R:Res α}{k:α→Bs→Res β}(h:Qq P G f (first++args++cap) A (Jv r s A enc R))(hw:QJ r A0 A)
 (hok:∀a u,R=.ok a u→(ZA P G false res (Jv r s A0 enc0 (k a u))).ops l st (putD env d (enc a)) [] (A.upd r (some (rk s u)))):
 (ZA P G false res (Jv r s A0 enc0 (R.bind k))).call (.func (.func f) first cap) args d l st env [] A:=by
 cases R with
 |ok a u=>exact Qh h fun o A' hk=>by obtain⟨rfl,rfl⟩:=hk;exact hok a u rfl
 |bad u=>
  refine Qh h fun o A' hk=> ?_
  obtain⟨rfl,rfl⟩:=hk
  show(ZA P G false res (Jv r s A0 enc0 (.bad u))).X (JT _ env) [] (Vu 227 s u) (A.upd r none)
  rw[UK]
  exact⟨_,hw.wk0,rfl,rfl⟩
theorem IJ {u:Bs}(h:Qq P G f (first++args++cap) A (Jv r s A enc (.bad u:Res α)))(hw:QJ r A0 A):
 (ZA P G false res (Jv r s A0 enc0 (.bad u))).call (.func (.func f) first cap) args d l st env [] A:=
 QY (R:=.bad u) (k:=fun(_:α) _=>.bad u) h hw fun _ _ h=>by cases h
theorem V6 {v:AV}{a:β}{u:Bs}(h:Wk v (enc0 a))(hA:QJ r A0 A)(hr:A r=some (rk s u)):Vn (some v) (Jv r s A0 enc0 (.ok a u)) A:=
 ZM h (hA.wk hr (by intros;simp [rk,Jh])) ⟨rfl,rfl⟩
end
def Ij (w:Bs):Prop:=∀u,Qc u=w→J7 u=1∨J7 u=3
theorem U4 {u:Bs}{c:UInt8}{t:Bs}(h:Qc u=c::t):∃r,u=c::r:=by
 cases u with
 |nil=>cases h
 |cons d r=>
  obtain⟨t',ht⟩:=KN (c:=d) (r:=r)
  rw[ht]at h
  simp only[fQ]at h
  exact⟨r,by rw[h.1]⟩
theorem Zu {c:UInt8}{t:Bs}(h:U8 c=true∨(JP c=false∧c∈X3)):Ij (c::t):=fun u hu=>by
 obtain⟨r,rfl⟩:=U4 hu
 simp only[J7]
 rcases h with h|⟨h1,h2⟩
 ·simp [h]
 ·by_cases hl:U8 c=true
  ·simp [hl]
  ·simp [hl,h1,h2]
theorem HL {a b:UInt8}(ha:U8 a=false)(hd:JP a=false)(hp:[a,b]∈Vq):Ij [a,b]:=fun u hu=>by
 obtain⟨r,rfl⟩:=U4 hu
 have h2:(a::r).take 2∈Vq:=by
  simp only[Qc,Z4,ha,hd,cB,if_false]at hu
  split at hu
  ·rename_i h;exact h
  ·simp at hu
 exact .inr (by simp only[J7,ha,hd,cB,if_false];rw[fC (.inl h2)])
theorem P5 {u:Bs}(h:Qk (Qc u)=true):J7 u=1:=by
 cases hc:Qc u with
 |nil=>rw[hc]at h;cases h
 |cons c t=>
  rw[hc]at h
  obtain⟨r,rfl⟩:=U4 hc
  have h':(decide ((c::t).length≤16)&&U8 c&& !decide (c::t∈OU)&&(c::t).all YI)=true:=h
  simp only[cD]at h'
  simp [J7,h'.1.1.2]
theorem XG {u:Bs}:J7 u=2↔Y0 u=true:=by
 match u with
 |[]=>simp [J7,Y0]
 |c::r=>
  simp only[J7,Y0]
  cases hl:U8 c with
  |true=>
   have:JP c=false:=by
    cases hd:JP c with
    |false=>rfl
    |true=>rw[Hf hd]at hl;cases hl
   simp [this]
  |false=>
   cases hd:JP c with
   |true=>simp
   |false=>
    simp only[cB,if_false,iff_false]
    split <;> decide
section
variable (G:Nat→Option (List AV))
theorem LN {A:Q2}{r:Nat}{s u:Bs}(hr:A r=some (rk s u))(hu:At s u):Qz Tryz.prog G 248 [.ptr r 0] A (.str (Qc u)) A:=by
 have h1:=O1 u
 have h2:=hu.le
 rw[Xk]at hr
 refine Q4 l248 (fE rfl) ?_
 simp only[Ev,hr,QI,seval]
 refine⟨⟨by omega,by omega,by omega⟩,Qv ?_ (Ve.refl _)⟩
 rw[Int.toNat_natCast,Int.toNat_natCast,hu.drop,Nat.add_sub_cancel_left]
 rfl
theorem LP {A:Q2}{r:Nat}{s u:Bs}(hr:A r=some (rk s u))(hu:At s u)(hs:s.length≤20000):Qz Tryz.prog G 214 [.ptr r 0] A Zt (A.upd r (some (rk s (adv u)))):=by
 have h1:=O1 u
 have h2:=hu.le
 have e1:s.drop (s.length - u.length+Z4 u)=u.drop (Z4 u):=by rw[←lC,hu.drop]
 have h3:=JY (u.drop (Z4 u)) false
 simp only[dW]at h3
 have e2:s.length - (adv u).length=s.length - u.length+Z4 u+QG false (u.drop (Z4 u)):=by
  simp only[adv,skip,dW];omega
 have:=FW G hr (by omega) (by omega) _ rfl
 rw[e1,←lC,e1]at this
 have e3:rk s (adv u)=Jh s (s.length - u.length+Z4 u+QG false (u.drop (Z4 u))) (s.length - u.length+Z4 u+QG false (u.drop (Z4 u))+Z4 (List.drop (QG false (u.drop (Z4 u))) (u.drop (Z4 u)))) (J7 (List.drop (QG false (u.drop (Z4 u))) (u.drop (Z4 u)))):=by
  simp only[rk,e2];rfl
 rw[e3];exact this
theorem k269 {A:Q2}{r:Nat}{s u w:Bs}(hr:A r=some (rk s u))(hu:At s u)(hw:Ij w):Qz Tryz.prog G 269 [.ptr r 0,.str w] A (bo (decide (Qc u=w))) A:=by
 have hr':=hr
 rw[Xk]at hr'
 refine Q4 l269 (fE rfl) ?_
 simp only[Ej,hr',QI,seval]
 refine⟨fun h=> ?_,fun h=>⟨fun h2=> ?_,fun h2=> ?_⟩⟩
 ·refine Q3 (LN G hr hu) ?_
  simp only[QI,seval]
  exact⟨fun h=>Qv (by rw[fA h]) (Ve.refl _),fun h=>Qv (by rw[fB h]) (Ve.refl _)⟩
 ·refine Q3 (LN G hr hu) ?_
  simp only[QI,seval]
  exact⟨fun h=>Qv (by rw[fA h]) (Ve.refl _),fun h=>Qv (by rw[fB h]) (Ve.refl _)⟩
 ·refine Qv ?_ (Ve.refl _)
  rw[fB fun hc=>by rcases hw u hc with h3|h3 <;> simp_all]
theorem UZ {A:Q2}{r:Nat}{s u w:Bs}(hr:A r=some (rk s u))(hu:At s u)(hw:Ij w)(hs:s.length≤20000):
 Qz Tryz.prog G 246 [.ptr r 0,.str w] A (bo (decide (Qc u=w))) (if Qc u=w then A.upd r (some (rk s (adv u)))else A):=by
 refine Q4 l246 (fE rfl) ?_
 simp only[Ey,QI,seval]
 refine Q3 (k269 G hr hu hw) ?_
 by_cases h:Qc u=w
 ·simp only[fA h,fC h,QI,seval]
  refine Q3 (LP G hr hu hs) ?_
  simp only[QI,seval]
  exact Qv rfl (Ve.refl _)
 ·simp only[fB h,fD h,QI,seval]
  exact Qv rfl (Ve.refl _)
theorem Pm {A:Q2}{r:Nat}{s u:Bs}{α:Type}{enc:α→AV}(hr:A r=some (rk s u)):Qq Tryz.prog G 247 [.ptr r 0] A (Jv r s A enc (.bad u)):=by
 rw[Xk]at hr
 refine Q4 l247 (fE rfl) ?_
 simp only[Ew,hr,QI,seval]
 refine Jq (v:=.agg [i64 (s.length - u.length:Nat)]) rfl ?_
 simp only[UK,QI,seval]
 exact⟨_,UJ (fun k=>by by_cases e:k=r <;> simp [Q2.upd,e,hr]),rfl,rfl⟩
theorem Xg {A:Q2}{r:Nat}{s u w:Bs}(hr:A r=some (rk s u))(hu:At s u)(hw:Ij w)(hs:s.length≤20000):
 Qq Tryz.prog G 216 [.ptr r 0,.str w] A (Jv r s A (fun _=>Zt) (Qw w u)):=by
 refine Q4 l216 (fE rfl) ?_
 simp only[EQ,QI,seval]
 refine Q3 (UZ G hr hu hw hs) ?_
 by_cases h:Qc u=w
 ·simp only[fA h,fC h,Qw,QO,QI,seval]
  exact V6 (Wk.refl _) (by repeat first|exact QJ.refl _ _|refine QJ.at ?_ _|refine QJ.set ?_ (by assumption) (by simp)) (Q0 ..)
 ·simp only[fB h,fD h,Qw,QI,seval]
  exact IJ (Pm (enc:=fun(_:Unit)=>Zt) G hr) (.refl _ _)
theorem LO {A:Q2}{r:Nat}{s u:Bs}(hr:A r=some (rk s u))(hu:At s u)(hs:s.length≤20000):
 Qq Tryz.prog G 217 [.ptr r 0] A (Jv r s A .str (Zb u)):=by
 have hr':=hr
 rw[Xk]at hr'
 refine Q4 l217 (fE rfl) ?_
 simp only[EP,QI,seval]
 refine Q3 (LN G hr hu) ?_
 simp only[hr',QI,seval]
 have hbad:Zb u=.bad u→∀{env l st},(ZA Tryz.prog G false [.tmp 2] (Jv r s A .str (Zb u))).call (.func (.func 247) [] []) [.ptr r 0] (some 17) l st env [] A:=fun e env l st=>by
  rw[e];exact IJ (Pm (enc:=fun(_:Unit)=>Zt) G hr) (.refl _ _)
 refine⟨fun h=> ?_,fun h=> ?_⟩
 ·refine Q3 (Ky G (Qc u) A (by have:=HD hu;omega)) ?_
  cases hn:Qk (Qc u)with
  |true=>
   simp only[QI,seval]
   refine Q3 (LP G hr hu hs) ?_
   simp only[Zb,hn,QI,seval]
   exact V6 (Wk.refl _) (by repeat first|exact QJ.refl _ _|refine QJ.at ?_ _|refine QJ.set ?_ (by assumption) (by simp)) (Q0 ..)
  |false=>
   simp only[QI,seval]
   exact hbad (by simp [Zb,hn])
 ·have hn:Qk (Qc u)=false:=by
   cases hn:Qk (Qc u)with
   |false=>rfl
   |true=>exact absurd (P5 hn) h
  exact hbad (by simp [Zb,hn])
end
section
variable (G:Nat→Option (List AV))
theorem FH (hG:Gl G){A:Q2}{r:Nat}{s u:Bs}{neg:Bool}(hr:A r=some (rk s u))(hu:At s u)(hs:s.length≤20000):
 Qq Tryz.prog G 294 [.ptr r 0,bo neg] A (Jv r s A i64 (JF neg u)):=by
 have hr':=hr
 rw[Xk]at hr'
 refine Q4 l294 (fE rfl) ?_
 simp only[Ea,QI,seval]
 refine Q3 (LN G hr hu) ?_
 simp only[hr',QI,seval]
 have hbad:JF neg u=.bad u→∀{env l st d},(ZA Tryz.prog G false [.tmp 4] (Jv r s A i64 (JF neg u))).call (.func (.func 247) [] []) [.ptr r 0] d l st env [] A:=fun e env l st d=>by
  rw[e];exact IJ (Pm (enc:=fun(_:Unit)=>Zt) G hr) (.refl _ _)
 cases hn:Y0 u with
 |false=>
  exact⟨fun h=>absurd (XG.1 h) (by simp [hn]),fun _=>hbad (by simp [JF,hn])⟩
 |true=>
  refine⟨fun _=> ?_,fun h=>absurd (XG.2 hn) h⟩
  refine Qh (FV hG (Qc u) _ (by have:=HD hu;omega)) ?_
  rintro o A' ⟨⟨n,e,rfl,he⟩,rfl⟩
  obtain⟨c,r',rfl⟩:∃c r',u=c::r':=by
   cases u with
   |nil=>cases hn
   |cons c r'=>exact⟨c,r',rfl⟩
  obtain⟨t,ht⟩:=KN (c:=c) (r:=r')
  have hpn:JF neg (c::r')=if 2147483648<U7 (Qc (c::r'))∨(1<(Qc (c::r')).length∧(Qc (c::r')).head?=some 48)∨(neg=true∧U7 (Qc (c::r'))=0)then .bad (c::r')else .ok (if neg then -(U7 (Qc (c::r')):Int)else U7 (Qc (c::r'))) (adv (c::r')):=by
   simp only[JF,hn,if_true]
  have hd:=WZ (by rw[ht];simp) (KU hn)
  generalize hD:U7 (Qc (c::r'))=D at hpn hd
  rw[ht]at hd he hpn⊢
  rcases he with⟨rfl,he⟩|⟨rfl,he⟩
  ·have hn':D<9223372036854775808∧n=D:=by
    rcases hd with⟨h1,h2⟩|⟨h1,h2⟩
    ·rw[h2]at he;cases he;exact⟨h1,rfl⟩
    ·rw[h2]at he;cases he
   obtain⟨hD63,rfl⟩:=hn'
   have h48:((c.toNat:Int)=48)↔(c::t).head?=some 48:=by
    simp only[List.head?_cons,cA]
    constructor
    ·intro h;apply UInt8.toNat_inj.1;show c.toNat=48;omega
    ·rintro rfl;rfl
   simp only[←h48,cE]at hpn
   cases neg
   ·have hno:(2147483648<D∨(1<t.length+1∧(c.toNat:Int)=48))→JF false (c::r')=.bad (c::r'):=fun h1=>by rw[hpn,fC (by omega)]
    have hfin:¬(2147483648<D∨(1<t.length+1∧(c.toNat:Int)=48))→JF false (c::r')=.ok D (adv (c::r')):=fun h1=>by rw[hpn,fD (by simp;omega)];rfl
    simp only[QI,seval]
    refine⟨fun h2=>hbad (hno (by omega)),fun h2=>⟨fun h3=>⟨fun h4=>hbad (hno (by omega)),fun h4=> ?_⟩,fun h3=> ?_⟩⟩
    all_goals
     rw[hfin (by omega)]
     refine Q3 (LP G hr hu hs) ?_
     simp only[QI,seval]
     exact V6 (Wk.refl _) (by repeat first|exact QJ.refl _ _|refine QJ.at ?_ _|refine QJ.set ?_ (by assumption) (by simp)) (Q0 ..)
   ·have hno:(2147483648<D∨(1<t.length+1∧(c.toNat:Int)=48)∨D=0)→JF true (c::r')=.bad (c::r'):=fun h1=>by rw[hpn,fC (by simp;omega)]
    have hfin:¬(2147483648<D∨(1<t.length+1∧(c.toNat:Int)=48)∨D=0)→JF true (c::r')=.ok (-D) (adv (c::r')):=fun h1=>by rw[hpn,fD (by simp;omega)];rfl
    have hw:D≤2147483648→IntKind.i64.wrap (0 - (D:Int))= -(D:Int):=fun h=>by rw[Qf (by omega) (by omega)];omega
    simp only[QI,seval]
    refine⟨fun h2=>hbad (hno (by omega)),fun h2=>⟨fun h3=>⟨fun h4=>hbad (hno (by omega)),fun h4=>⟨fun h5=>hbad (hno (by omega)),fun h5=> ?_⟩⟩,fun h3=>⟨fun h5=>hbad (hno (by omega)),fun h5=> ?_⟩⟩⟩
    all_goals
     rw[hfin (by omega)]
     refine Q3 (LP G hr hu hs) ?_
     simp only[hw (by omega),QI,seval]
     exact V6 (Wk.refl _) (by repeat first|exact QJ.refl _ _|refine QJ.at ?_ _|refine QJ.set ?_ (by assumption) (by simp)) (Q0 ..)
  ·simp only[QI,seval]
   refine hbad ?_
   have:9223372036854775808≤D:=by
    rcases hd with⟨h1,h2⟩|⟨h1,h2⟩
    ·exact absurd h2 (he _)
    ·exact h1
   rw[hpn,fC (.inl (by omega))]
theorem Ze {α β γ:Type}{R:Res α}{k:α→Bs→Res β}{m:β→Bs→Res γ}:(R.bind k).bind m=R.bind fun a u=>(k a u).bind m:=by cases R <;> rfl
theorem k218 {α:Type}{A:Q2}{r:Nat}{s u:Bs}{one:Bs→Res α}{f:Nat}{enc:α→AV}{fn:FuncId}{first cap:List AV}(hr:A r=some (rk s u))(hu:At s u)(hs:s.length≤20000)(hf:u.length<f)
 (h1:∀A' u',QJ r A A'→A' r=some (rk s u')→At s u'→u'.length≤u.length→Qq Tryz.prog G fn (first++cap) A' (Jv r s A' enc (one u')))(htk:Tk one)(hsz:∀a,(enc a).cells.length=1)(hone:∀a,(enc a).cells.all AV.one=true):
 Qq Tryz.prog G 218 [.ptr r 0,.func (.func fn) first cap] A (Jv r s A (Qr 1 fun a=>(enc a).cells) (Uc one f u)):=by
 refine Q4 l218 (fE rfl) ?_
 simp only[EO,QI,seval]
 refine Q3 (UZ G hr hu (Zu (.inr (by decide))) hs) ?_
 by_cases hc:Qc u=[41]
 ·simp only[fA hc,fC hc,Uc,QI,seval]
  exact V6 ZY (by repeat first|exact QJ.refl _ _|refine QJ.at ?_ _|refine QJ.set ?_ (by assumption) (by simp)) (Q0 ..)
 simp only[fB hc,fD hc,Uc,J2,Ze,QI,seval]
 refine QY (by simpa using h1 A u (.refl _ _) hr hu (fG _)) (.refl _ _) fun x u1 hx=> ?_
 have b1:=htk _ _ _ _ hu hx
 simp only[QI,seval]
 refine QU (cs:=(enc x).cells) (ZP _ _ (hsz x) (by decide)) fun t0 ht0=> ?_
 obtain⟨ht0r,ht00⟩:=Q8 ht0
 simp only[Qx,X8,Nat.one_ne_zero,QI,seval]
 intro t ht
 obtain⟨ht1,ht⟩:=Q8 ht
 obtain⟨htr,hta⟩:=Q8 ht
 refine Qt (fun n env ds A'=>∃(l:List α) (u':Bs) (t:Nat),n=u'.length∧env 0=.ptr r 0∧env 1=.func (.func fn) first cap∧env 4=.slice 1 l.length (l.flatMap fun a=>(enc a).cells) (some t)∧ds=[]∧At s u'∧u'.length≤u.length∧
  l.length+u'.length≤s.length∧t≠r∧A t=none∧A' r=some (rk s u')∧A' t=some .tip∧QJ r A A'∧∃f',u'.length<f'∧ZT [44] one f [x] u1=ZT [44] one f' l u') u1.length
  ⟨[x],u1,t,rfl,rfl,rfl,by simp [Jf],rfl,b1.at',b1.beq.le,by have:=b1.lt;have:=hu.le;simp;omega,htr,hta,by simp [Q2.upd,htr.symm,ht0r.symm],by simp,(((QJ.refl _ _).at _).set ht00 (by simp)).set hta (by simp),f,by have:=b1.lt;omega,rfl⟩ ?_
 rintro n env ds A' ⟨l,u',t,rfl,h0,h1',h4,rfl,hu',hle,hlen,htr,hta,hr',ht',hov,f',hf',hR⟩
 obtain⟨f',rfl⟩:∃m,f'=m+1:=⟨f' - 1,by omega⟩
 simp only[h0,h1',h4,QI,seval]
 refine Q3 (UZ G hr' hu' (Zu (.inr (by decide))) hs) ?_
 rw[hR]
 by_cases hc:Qc u'=[44]
 ·have b2:=Beh.adv hu' hc (by decide)
  simp only[fA hc,fC hc,h0,h1',h4,ZT,Ze,QI,seval]
  refine QY (by simpa using h1 _ (adv u') (hov.at _) (Q0 ..) b2.at' (by have:=b2.lt;omega)) (hov.at _) fun y u2 hy=> ?_
  have b3:=htk _ _ _ _ b2.at' hy
  simp only[h4,QI,seval]
  refine QU (cs:=(enc y).cells) (ZP _ _ (hsz y) (by decide)) fun t2 ht2=> ?_
  obtain⟨e1,ht2⟩:=Q8 ht2
  have e2:t2≠t:=(Q6 ht' ht2).symm
  have hl3:=b3.lt
  have hl2:=b2.lt
  simp only[h4,Qx,Yt,QI,seval]
  refine⟨by simp [Q2.upd,htr,e2.symm,ht'],by omega,hone y,fun t3 ht3=> ?_⟩
  obtain⟨e3,ht3⟩:=Q8 ht3
  obtain⟨e4,ht3⟩:=Q8 ht3
  refine⟨u2.length,by omega,l++[y],u2,t3,rfl,h0,h1',by simp,b3.at',by omega,by simp;omega,e4,hov.gone e4 ht3,?_,by simp,?_,f',by omega,by simp only[hy,Qe]⟩
  ·simp [Q2.upd,htr.symm,e1.symm,e4.symm]
  ·exact(((((hov.at _).tip e1 (by simpa[Q2.upd,e1]using ht2)).set hta (by simp))).set (hov.gone e4 ht3) (by simp))
 ·simp only[fB hc,fD hc,h0,h1',h4,ZT,Qe,QI,seval]
  refine QY (Xg G hr' hu' (Zu (.inr (by decide))) hs) hov fun _ u2 hy=> ?_
  simp only[h4,QI,seval]
  exact V6 J9 (hov.at _) (Q0 ..)
theorem k295 {α:Type}{A:Q2}{r:Nat}{s u:Bs}{one:Bs→Res α}{f:Nat}{enc:α→AV}{fn:FuncId}{first cap:List AV}(hr:A r=some (rk s u))(hu:At s u)(hs:s.length≤20000)(hf:u.length<f)
 (h1:∀A' u',QJ r A A'→A' r=some (rk s u')→At s u'→u'.length≤u.length→Qq Tryz.prog G fn (first++cap) A' (Jv r s A' enc (one u')))(htk:Tk one)(hsz:∀a,(enc a).cells.length=4)(hone:∀a,(enc a).cells.all AV.one=true):
 Qq Tryz.prog G 295 [.ptr r 0,.func (.func fn) first cap] A (Jv r s A (Qr 4 fun a=>(enc a).cells) (Uc one f u)):=by
 refine Q4 l295 (fE rfl) ?_
 simp only[E9,QI,seval]
 refine Q3 (UZ G hr hu (Zu (.inr (by decide))) hs) ?_
 by_cases hc:Qc u=[41]
 ·simp only[fA hc,fC hc,Uc,QI,seval]
  exact V6 ZY (by repeat first|exact QJ.refl _ _|refine QJ.at ?_ _|refine QJ.set ?_ (by assumption) (by simp)) (Q0 ..)
 simp only[fB hc,fD hc,Uc,J2,Ze,QI,seval]
 refine QY (by simpa using h1 A u (.refl _ _) hr hu (fG _)) (.refl _ _) fun x u1 hx=> ?_
 have b1:=htk _ _ _ _ hu hx
 simp only[QI,seval]
 refine QU (cs:=(enc x).cells) (ZP _ _ (hsz x) (by decide)) fun t0 ht0=> ?_
 obtain⟨ht0r,ht00⟩:=Q8 ht0
 simp only[Qx,X8,Nat.one_ne_zero,QI,seval]
 intro t ht
 obtain⟨ht1,ht⟩:=Q8 ht
 obtain⟨htr,hta⟩:=Q8 ht
 refine Qt (fun n env ds A'=>∃(l:List α) (u':Bs) (t:Nat),n=u'.length∧env 0=.ptr r 0∧env 1=.func (.func fn) first cap∧env 4=.slice 4 l.length (l.flatMap fun a=>(enc a).cells) (some t)∧ds=[]∧At s u'∧u'.length≤u.length∧
  l.length+u'.length≤s.length∧t≠r∧A t=none∧A' r=some (rk s u')∧A' t=some .tip∧QJ r A A'∧∃f',u'.length<f'∧ZT [44] one f [x] u1=ZT [44] one f' l u') u1.length
  ⟨[x],u1,t,rfl,rfl,rfl,by simp [Jf],rfl,b1.at',b1.beq.le,by have:=b1.lt;have:=hu.le;simp;omega,htr,hta,by simp [Q2.upd,htr.symm,ht0r.symm],by simp,(((QJ.refl _ _).at _).set ht00 (by simp)).set hta (by simp),f,by have:=b1.lt;omega,rfl⟩ ?_
 rintro n env ds A' ⟨l,u',t,rfl,h0,h1',h4,rfl,hu',hle,hlen,htr,hta,hr',ht',hov,f',hf',hR⟩
 obtain⟨f',rfl⟩:∃m,f'=m+1:=⟨f' - 1,by omega⟩
 simp only[h0,h1',h4,QI,seval]
 refine Q3 (UZ G hr' hu' (Zu (.inr (by decide))) hs) ?_
 rw[hR]
 by_cases hc:Qc u'=[44]
 ·have b2:=Beh.adv hu' hc (by decide)
  simp only[fA hc,fC hc,h0,h1',h4,ZT,Ze,QI,seval]
  refine QY (by simpa using h1 _ (adv u') (hov.at _) (Q0 ..) b2.at' (by have:=b2.lt;omega)) (hov.at _) fun y u2 hy=> ?_
  have b3:=htk _ _ _ _ b2.at' hy
  simp only[h4,QI,seval]
  refine QU (cs:=(enc y).cells) (ZP _ _ (hsz y) (by decide)) fun t2 ht2=> ?_
  obtain⟨e1,ht2⟩:=Q8 ht2
  have e2:t2≠t:=(Q6 ht' ht2).symm
  have hl3:=b3.lt
  have hl2:=b2.lt
  simp only[h4,Qx,Yt,QI,seval]
  refine⟨by simp [Q2.upd,htr,e2.symm,ht'],by omega,hone y,fun t3 ht3=> ?_⟩
  obtain⟨e3,ht3⟩:=Q8 ht3
  obtain⟨e4,ht3⟩:=Q8 ht3
  refine⟨u2.length,by omega,l++[y],u2,t3,rfl,h0,h1',by simp,b3.at',by omega,by simp;omega,e4,hov.gone e4 ht3,?_,by simp,?_,f',by omega,by simp only[hy,Qe]⟩
  ·simp [Q2.upd,htr.symm,e1.symm,e4.symm]
  ·exact(((((hov.at _).tip e1 (by simpa[Q2.upd,e1]using ht2)).set hta (by simp))).set (hov.gone e4 ht3) (by simp))
 ·simp only[fB hc,fD hc,h0,h1',h4,ZT,Qe,QI,seval]
  refine QY (Xg G hr' hu' (Zu (.inr (by decide))) hs) hov fun _ u2 hy=> ?_
  simp only[h4,QI,seval]
  exact V6 J9 (hov.at _) (Q0 ..)
end
def Ih (l:List (Bs×Int)):List (AV×AV):=l.map fun p=>(.str p.1,i64 p.2)
theorem Hj:∀(l:List (Bs×Int)) (t:Bs),V5 (.str t) (Ih l)=some ((l.lookup t).map i64)
 |[],t=>rfl
 |(a,k)::l,t=>by
  show(if t==a then some (some (i64 k))else V5 (.str t) (Ih l))=_
  rw[Hj l t,List.lookup_cons]
  cases h:t==a <;> simp
def QQ (A A':Q2):Prop:=∀k,A' k=A k∨A k=none∧∀es,A' k=some (.mp es)→∀j l e,A j≠some (.mit (some k) l e)
theorem QQ.refl (A:Q2):QQ A A:=fun _=>.inl rfl
theorem QQ.over {A A':Q2}(h:QQ A A')(r:Nat):QJ r A A':=fun k _=>(h k).elim .inl fun h=>.inr ⟨h.1,fun es he j l e hj=>absurd hj (h.2 es he j l e)⟩
theorem QQ.keep {A A':Q2}(h:QQ A A'){k:Nat}{o:AObj}(ho:A k=some o):A' k=some o:=by
 rcases h k with h1|h1
 ·rw[h1,ho]
 ·rw[h1.1]at ho;cases ho
theorem QQ.gone {A A':Q2}(h:QQ A A'){k:Nat}(ho:A' k=none):A k=none:=by
 rcases h k with h1|h1
 ·rw[←h1,ho]
 ·exact h1.1
theorem QQ.set {A A':Q2}(h:QQ A A'){t:Nat}(ht:A t=none){o:Option AObj}(ho:∀es,o≠some (.mp es)):QQ A (A'.upd t o):=fun k=>by
 by_cases e:k=t
 ·subst e;rw[Q0];exact .inr ⟨ht,fun es he=>absurd he (ho es)⟩
 ·rw[Q5 e];exact h k
theorem QQ.map {A A':Q2}(h:QQ A A'){t:Nat}(ht:A t=none)(hi:W2 A' t)(o:Option AObj):QQ A (A'.upd t o):=fun k=>by
 by_cases e:k=t
 ·subst e;exact .inr ⟨ht,fun _ _ j l e hj=>hi j _ l e (h.keep hj) rfl⟩
 ·rw[Q5 e];exact h k
section
variable (G:Nat→Option (List AV))
def Bo (A:Q2)(o:Out)(A':Q2):Prop:=∃ms:List AV,o=.ret (.agg ms)∧ms.length=6∧QQ A A'∧ms[0]? =some (.raw (.map none))∧∀n,1≤n→n≤5→∃m,ms[n]? =some (.map m)∧A' m=some (.mp (Ih (Zq n)))
theorem FI (A:Q2):Qq Tryz.prog G 265 [] A (Bo A):=by
 refine Q4 l265 (fE rfl) ?_
 simp only[El,QI,seval]
 intro c hc m1 h1 n1
 refine Yp n1 rfl ?_
 simp only[QI,seval]
 intro m2 h2 n2
 refine Yp n2 rfl ?_
 simp only[QI,seval]
 intro m3 h3 n3
 refine Yp n3 rfl ?_
 simp only[QI,seval]
 refine Yp n3 rfl ?_
 simp only[QI,seval]
 refine Yp n3 rfl ?_
 simp only[QI,seval]
 refine Yp n3 rfl ?_
 simp only[QI,seval]
 refine Yp n3 rfl ?_
 simp only[QI,seval]
 refine Yp n3 rfl ?_
 simp only[QI,seval]
 intro m4 h4 n4
 refine Yp n4 rfl ?_
 simp only[QI,seval]
 refine Yp n4 rfl ?_
 simp only[QI,seval]
 intro m5 h5 n5
 refine Yp n5 rfl ?_
 simp only[QI,seval]
 refine Yp n5 rfl ?_
 simp only[QI,seval]
 refine Yp n5 rfl ?_
 obtain⟨c1,a1⟩:=Q8 h1
 obtain⟨d2,h2⟩:=Q8 h2
 obtain⟨c2,a2⟩:=Q8 h2
 obtain⟨e3,h3⟩:=Q8 h3
 obtain⟨d3,h3⟩:=Q8 h3
 obtain⟨c3,a3⟩:=Q8 h3
 obtain⟨f4,h4⟩:=Q8 h4
 obtain⟨e4,h4⟩:=Q8 h4
 obtain⟨d4,h4⟩:=Q8 h4
 obtain⟨c4,a4⟩:=Q8 h4
 obtain⟨g5,h5⟩:=Q8 h5
 obtain⟨f5,h5⟩:=Q8 h5
 obtain⟨e5,h5⟩:=Q8 h5
 obtain⟨d5,h5⟩:=Q8 h5
 obtain⟨c5,a5⟩:=Q8 h5
 have hne:∀{a b:Nat} {A:Q2} {o:Option AObj},b≠a→(A.upd a o) b=A b:=fun h=>Q5 h
 simp only[hne c1.symm,hne c2.symm,hne c3.symm,hne c4.symm,hne c5.symm,Zx,seval]
 refine ZM (Wk.refl _) (Ve.refl _) ⟨_,rfl,rfl,?_,rfl,?_⟩
 ·exact((((((QQ.refl A).set hc (by simp)).map a1 n1 _).map a2 n2 _).map a3 n3 _).map a4 n4 _).map a5 n5 _ |>.set hc (by simp)
 ·intro n hn1 hn5
  have:n=1∨n=2∨n=3∨n=4∨n=5:=by omega
  rcases this with rfl|rfl|rfl|rfl|rfl
  ·exact⟨m1,rfl,by simp only[hne c1,hne d5.symm,hne d4.symm,hne d3.symm,hne d2.symm,Q0];rfl⟩
  ·exact⟨m2,rfl,by simp only[hne c2,hne e5.symm,hne e4.symm,hne e3.symm,Q0];rfl⟩
  ·exact⟨m3,rfl,by simp only[hne c3,hne f5.symm,hne f4.symm,Q0];rfl⟩
  ·exact⟨m4,rfl,by simp only[hne c4,hne g5.symm,Q0];rfl⟩
  ·exact⟨m5,rfl,by simp only[hne c5,Q0];rfl⟩
end
end Go.Proofs.YtcbjbgaefighcaaGreatDoor
