/- Part 14 of the proof. -/
import Derived.Test.YtcbjbgaefighcaaGreatDoorT0
import Derived.Test.YtcbjbgaefighcaaGreatDoorT8
import Derived.Test.YtcbjbgaefighcaaGreatDoorT9
import Derived.Test.YtcbjbgaefighcaaGreatDoorT12
import Derived.Test.YtcbjbgaefighcaaGreatDoorT13
set_option linter.all false
namespace Go.Proofs.YtcbjbgaefighcaaGreatDoor
open Go Go.Ax Go.Proofs
def JG (s:List UInt8)(a b:Nat)(k:Int):AObj:=.cells [.str s,i64 a,i64 b,i64 k]
def XM:Bs:=[43,45,42,47,37,60,62,61,33,63,58,59,44,46,40,41,123,125]
def Jr (u:Bs):Int:=match u with
 |[]=>0
 |c::r=>if Yu c then 1 else if J7 c then 2 else if(c::r).take 2∈Yp∨c∈XM then 3 else 4
theorem UI:∀(l:Bs) (c:UInt8),0≤Lib.indexByte l c↔c∈l
 |[],c=>by simp [Lib.indexByte]
 |x::l,c=>by
  have ih:=UI l c
  have hge:=Lib.indexByte_ge l c
  simp only[Lib.indexByte]
  split
  ·rename_i h;simp [beq_iff_eq.1 h]
  ·rename_i h
   have hne:c≠x:=fun e=>by subst e;simp at h
   split
   ·rename_i h1;simp only[beq_iff_eq]at h1
    have:c∉l:=fun hm=>by have:=ih.2 hm;omega
    simp [hne,this]
   ·rename_i h1;simp only[beq_iff_eq]at h1
    have:c∈l:=ih.1 (by omega)
    simp [this];omega
section
variable (G:Nat→Option (List AV))
theorem Cu {A:Q2}{r:Nat}{s:List UInt8}{a b:Nat}{k:Int}(hr:A r=some (JG s a b k))(hb:b≤s.length)(hs:s.length<2^62)(p:Nat)(hp:p=b+QG false (s.drop b)):
 QB Tryz.prog G 214 [.ptr r 0] A ZD (A.upd r (some (JG s p (p+Z3 (s.drop p)) (Jr (s.drop p))))):=by
 refine Q4 l214 (fE rfl) ?_
 unfold Bt
 refine Qb (fun env ds A'=>env 0=.ptr r 0∧env 2=i64 b∧ds=[]∧A'=A) ?_ ?_
 ·simp only[hr,JG,ZK,seval]
 rintro env ds A' ⟨h0,h2,rfl,rfl⟩
 refine Qb (fun env ds A''=>env 0=.ptr r 0∧env 2=i64 p∧ds=[]∧A''=A') ?_ ?_
 ·rw[Vm]
  refine Qt (fun n env ds A1=>∃i:Nat,b≤i∧i≤s.length∧n=s.length - i∧env 0=.ptr r 0∧env 2=i64 i∧ds=[]∧A1=A'∧p=i+QG false (s.drop i)) (s.length - b) ⟨b,fG _,hb,rfl,h0,h2,rfl,rfl,hp⟩ ?_
  rintro n env ds A1 ⟨i,hbi,his,rfl,h0,h2,rfl,rfl,hpi⟩
  simp only[hr,JG,h0,h2,ZK,seval]
  refine⟨fun h=> ?_,fun h=> ?_⟩
  ·have hlt:i<s.length:=by omega
   refine⟨⟨by omega,by omega,by omega⟩,?_⟩
   have e1:List.take ((s.length:Int).toNat - (i:Int).toNat) (List.drop (i:Int).toNat s)=s.drop i:=by
    rw[dX (by simp)];simp
   simp only[e1,ZK,seval]
   refine Q3 (f75 G (s.drop i) [47,47] A1) ?_
   cases hpre:[47,47].isPrefixOf (s.drop i)with
   |true=>
    simp only[hr,JG,h0,h2,ZK,seval]
    refine⟨⟨by omega,by omega,by omega⟩,?_⟩
    simp only[e1,ZK,seval]
    refine Q3 (RO G (s.drop i) 10 A1) ?_
    simp only[hr,JG,h0,h2,ZK,seval]
    obtain⟨hb1,hb2⟩:=Oc hpre
    have hble:=Yx (s.drop i) true
    simp only[dW]at hble
    refine⟨fun hn=> ?_,fun hn=> ?_⟩
    ·have hx:=KK _ hn
     simp only[dW]at hx
     refine⟨0,by omega,s.length,hb,fG _,by omega,?_⟩
     rw[Qe (n:=(s.length:Int) - i) (by omega) (by omega),Qe (by omega) (by omega)]
     have e2:(i:Int)+((s.length:Int) - i)=s.length:=by omega
     simp only[e2,true_and,List.drop_length,QG,fS]
     omega
    ·obtain⟨k,hk⟩:∃k:Nat,Lib.indexByte (s.drop i) 10=k:=⟨(Lib.indexByte (s.drop i) 10).toNat,by omega⟩
     have hx:=KJ _ k hk
     rw[lC]at hx
     rw[hk]at hb2
     refine⟨s.length - (i+k),by omega,i+k,by omega,by omega,rfl,?_⟩
     rw[hk,Qe (by omega) (by omega)]
     simp only[Int.natCast_add,true_and]
     omega
   |false=>
    simp only[hr,JG,h0,h2,ZK,seval]
    refine JV (v:=u8 s[i]) (by simp [hlt]) ?_
    simp only[hr,JG,h0,h2,ZK,seval]
    refine Q3 (RO G [32,9,13,10] s[i] A1) ?_
    simp only[hr,JG,h0,h2,ZK,seval]
    have hone:=Lz (dP hlt) hpre
    refine⟨fun hn=> ?_,fun hn=> ?_⟩
    ·rw[(XF _).1 hn]at hone
     simp only[cB,if_false]at hone
     simp only[hpi,hone,fS,true_and]
    ·have hw:XY s[i]=true:=by
      cases hw:XY s[i]with
      |true=>rfl
      |false=>exact absurd ((XF _).2 hw) hn
     rw[hw,fC rfl]at hone
     refine⟨s.length - (i+1),by omega,i+1,by omega,by omega,rfl,?_⟩
     rw[Qe (by omega) (by omega)]
     simp only[Int.natCast_add,Int.cast_ofNat_Int,true_and]
     omega
  ·have:i=s.length:=by omega
   subst this
   simp only[List.drop_length,QG,fS]at hpi
   simp [hpi]
 rintro env ds A'' ⟨h0,h2,rfl,rfl⟩
 refine Qb (fun env ds A'=>env 0=.ptr r 0∧env 2=i64 p∧ds=[]∧A'=A''.upd r (some (JG s p p 0))) ?_ ?_
 ·simp only[show A'' r=some (.cells [.str s,i64 a,i64 b,i64 k])from hr,h0,h2,Jb,Ja,Vb,Vd,Vc,Qp,Ql,reduceIte,reduceCtorEq,Nat.reduceEqDiff,Nat.reduceAdd,Nat.reduceMul,Nat.reduceLeDiff,Nat.reduceSub,Int.reduceLE,Int.reduceLT,Int.reduceToNat,cA,cB,true_and,and_true,Z5]
  rfl
 rintro env ds A' ⟨h0,h2,rfl,rfl⟩
 have hr':(A''.upd r (some (JG s p p 0))) r=some (JG s p p 0):=Q0 _ _ _
 have hfin:A''.upd r (some (JG s p (p+Z3 (s.drop p)) (Jr (s.drop p))))=(A''.upd r (some (JG s p p 0))).upd r (some (JG s p (p+Z3 (s.drop p)) (Jr (s.drop p)))):=by rw[QY]
 rw[hfin]
 generalize A''.upd r (some (JG s p p 0))=B at*
 have hps:p≤s.length:=by
  have:=Yx (s.drop b) false
  simp only[dW]at this
  omega
 have hrc:B r=some (.cells [.str s,i64 p,i64 p,i64 0]):=hr'
 by_cases hpl:p=s.length
 ·have e1:Z3 (s.drop p)=0:=by rw[hpl];simp [Z3]
  have e2:Jr (s.drop p)=0:=by rw[hpl];simp [Jr]
  rw[e1,e2,fS]
  simp only[hrc,h0,h2,Jb,Ja,Vb,Vd,Vc,Qp,Ql,reduceIte,reduceCtorEq,Nat.reduceEqDiff,Nat.reduceAdd,Nat.reduceMul,Nat.reduceLeDiff,Nat.reduceSub,Int.reduceLE,Int.reduceLT,Int.reduceToNat,cA,cB,true_and,and_true,Z5]
  refine⟨fun _=> ?_,fun h=>absurd (by rw[hpl]) h⟩
  refine Qv rfl ?_
  rw[YJ hr']
  exact VU.refl _
 have hlt:p<s.length:=by omega
 have hdp:s.drop p=s[p]::s.drop (p+1):=dP hlt
 refine Qb (fun env ds A'=>env 0=.ptr r 0∧env 2=i64 p∧ds=[]∧A'=B) ?_ ?_
 ·simp only[hrc,h0,h2,Jb,Ja,Vb,Vd,Vc,Qp,Ql,reduceIte,reduceCtorEq,Nat.reduceEqDiff,Nat.reduceAdd,Nat.reduceMul,Nat.reduceLeDiff,Nat.reduceSub,Int.reduceLE,Int.reduceLT,Int.reduceToNat,cA,cB,true_and,and_true,Z5]
  exact⟨fun h=>by omega,fun _=>by simp⟩
 rintro env ds A' ⟨h0,h2,rfl,rfl⟩
 refine Qb (fun env ds B'=>env 0=.ptr r 0∧env 2=i64 p∧env 4=u8 s[p]∧ds=[]∧B'=A') ?_ ?_
 ·simp only[hrc,h0,h2,Jb,Ja,Vb,Vd,Vc,Qp,Ql,reduceIte,reduceCtorEq,Nat.reduceEqDiff,Nat.reduceAdd,Nat.reduceMul,Nat.reduceLeDiff,Nat.reduceSub,Int.reduceLE,Int.reduceLT,Int.reduceToNat,cA,cB,true_and,and_true,Z5]
  refine JV (v:=u8 s[p]) (by simp [hlt]) ?_
  simp only[hrc,h0,h2,Jb,Ja,Vb,Vd,Vc,Qp,Ql,reduceIte,reduceCtorEq,Nat.reduceEqDiff,Nat.reduceAdd,Nat.reduceMul,Nat.reduceLeDiff,Nat.reduceSub,Int.reduceLE,Int.reduceLT,Int.reduceToNat,cA,cB,true_and,and_true,Z5]
 rintro env ds B ⟨h0,h2,h4,rfl,rfl⟩
 refine Qb (fun env ds A'=>env 0=.ptr r 0∧env 2=i64 (p+Z3 (s.drop p))∧ds=[]∧(A'=B.upd r (some (JG s p p (Jr (s.drop p))))∨∃t,B t=none∧A'=(B.upd t (some .tip)).upd r (some (JG s p p (Jr (s.drop p)))))) ?_ ?_
 ·simp only[h0,h2,h4,Jb,Ja,Vb,Vd,Vc,Qp,Ql,reduceIte,reduceCtorEq,Nat.reduceEqDiff,Nat.reduceAdd,Nat.reduceMul,Nat.reduceLeDiff,Nat.reduceSub,Int.reduceLE,Int.reduceLT,Int.reduceToNat,cA,cB,true_and,and_true,Z5]
  refine Q3 (SP G s[p] B) ?_
  cases hL:Yu s[p]with
  |true=>
   have hk:Jr (s.drop p)=1:=by simp only[Jr,hdp,hL,if_true]
   rw[hk]
   simp only[hrc,h0,h2,ZK,seval]
   have hrc1:(B.upd r (some (JG s p p 1))) r=some (.cells [.str s,i64 p,i64 p,i64 1]):=Q0 ..
   change Cx.run _ _ _ _ _ (B.upd r (some (JG s p p 1)))
   refine Qt (fun n env ds A1=>∃i:Nat,p≤i∧i≤s.length∧n=s.length - i∧env 0=.ptr r 0∧env 2=i64 i∧ds=[]∧A1=B.upd r (some (JG s p p 1))∧((s.drop p).take (i - p)).all Y3=true) (s.length - p)
    ⟨p,fG _,hps,rfl,by simp [JD,h0],by simp [JD,h2],rfl,rfl,by simp⟩ ?_
   rintro n env ds A1 ⟨i,hpi,his,rfl,h0,h2,rfl,rfl,hall⟩
   have htok:(∀c,(s.drop p)[i - p]? =some c→Y3 c=false)→Z3 (s.drop p)=i - p:=fun hst=>by
    have:=Ui (by simp;omega) hall hst
    simp only[Z3,hdp,hL,if_true]
    rw[←hdp];exact this
   simp only[hrc1,h0,h2,ZK,seval]
   refine⟨fun h=> ?_,fun h=> ?_⟩
   ·have hlt':i<s.length:=by omega
    refine JV (v:=u8 s[i]) (by simp [hlt']) ?_
    simp only[hrc1,h0,h2,ZK,seval]
    refine Q3 (SP G s[i] _) ?_
    have hgi:(s.drop p)[i - p]? =some s[i]:=by
     rw[List.getElem?_drop,show p+(i - p)=i from by omega];simp [hlt']
    have hgo:Y3 s[i]=true→∃m,m<s.length - i∧∃i_1:Nat,p≤i_1∧i_1≤s.length∧m=s.length - i_1∧i64 ((i:Int)+1)=i64 i_1∧(List.take (i_1 - p) (List.drop p s)).all Y3=true:=fun hc=>by
     refine⟨s.length - (i+1),by omega,i+1,by omega,by omega,rfl,by simp,?_⟩
     rw[show i+1 - p=(i - p)+1 from by omega]
     exact XG hall hgi hc
    have hin:Y3 s[i]=false→i64 i=i64 (p+Z3 (s.drop p)):=fun hc=>by
     rw[htok (fun c hc'=>by rw[hgi]at hc';simp only[cA]at hc';rw[←hc'];exact hc)]
     simp only[AV.raw.injEq,Value.int.injEq,true_and]
     omega
    cases hl:Yu s[i]with
    |true=>
     simp only[hrc1,h0,h2,ZK,seval]
     rw[Qe (by omega) (by omega)]
     exact hgo (by simp [Y3,hl])
    |false=>
     simp only[hrc1,h0,h2,ZK,seval]
     refine JV (v:=u8 s[i]) (by simp [hlt']) ?_
     simp only[hrc1,h0,h2,ZK,seval]
     refine Q3 (SO G s[i] _) ?_
     cases hd:J7 s[i]with
     |true=>
      simp only[hrc1,h0,h2,ZK,seval]
      rw[Qe (by omega) (by omega)]
      exact hgo (by simp [Y3,hd])
     |false=>
      simp only[hrc1,h0,h2,ZK,seval]
      refine JV (v:=u8 s[i]) (by simp [hlt']) ?_
      simp only[hrc1,h0,h2,ZK,seval]
      have h95:((s[i].toNat:Int)==95)=(s[i]==95):=TZ s[i] 95
      refine⟨fun hc=> ?_,fun hc=> ?_⟩ <;> have hc:_=_:=h95.symm.trans (by first|exact beq_iff_eq.2 hc|exact beq_false_of_ne hc)
      ·rw[Qe (by omega) (by omega)]
       exact hgo (by simp [Y3,hc])
      ·simp only[hin (by simp [Y3,hl,hd,hc]),true_and,true_or,and_true]
   ·have:i=s.length:=by omega
    rw[htok (fun c hc=>by rw[fL (by simp;omega)]at hc;cases hc)]
    simp [this]
    omega
  |false=>
   simp only[h4,ZK,seval]
   refine Q3 (SO G s[p] B) ?_
   cases hD:J7 s[p]with
   |true=>
    have hk:Jr (s.drop p)=2:=by simp only[Jr,hdp,hL,hD,if_true,cB,if_false]
    rw[hk]
    simp only[hrc,h0,h2,ZK,seval]
    have hrc1:(B.upd r (some (JG s p p 2))) r=some (.cells [.str s,i64 p,i64 p,i64 2]):=Q0 ..
    change Cx.run _ _ _ _ _ (B.upd r (some (JG s p p 2)))
    refine Qt (fun n env ds A1=>∃i:Nat,p≤i∧i≤s.length∧n=s.length - i∧env 0=.ptr r 0∧env 2=i64 i∧ds=[]∧A1=B.upd r (some (JG s p p 2))∧((s.drop p).take (i - p)).all J7=true) (s.length - p)
     ⟨p,fG _,hps,rfl,by simp [JD,h0],by simp [JD,h2],rfl,rfl,by simp⟩ ?_
    rintro n env ds A1 ⟨i,hpi,his,rfl,h0,h2,rfl,rfl,hall⟩
    have htok:(∀c,(s.drop p)[i - p]? =some c→J7 c=false)→Z3 (s.drop p)=i - p:=fun hst=>by
     have:=Ui (by simp;omega) hall hst
     simp only[Z3,hdp,hL,hD,if_true,cB,if_false]
     rw[←hdp];exact this
    simp only[hrc1,h0,h2,ZK,seval]
    refine⟨fun h=> ?_,fun h=> ?_⟩
    ·have hlt':i<s.length:=by omega
     refine JV (v:=u8 s[i]) (by simp [hlt']) ?_
     simp only[hrc1,h0,h2,ZK,seval]
     refine Q3 (SO G s[i] _) ?_
     have hgi:(s.drop p)[i - p]? =some s[i]:=by
      rw[List.getElem?_drop,show p+(i - p)=i from by omega];simp [hlt']
     cases hd:J7 s[i]with
     |true=>
      simp only[hrc1,h0,h2,ZK,seval]
      rw[Qe (by omega) (by omega)]
      refine⟨s.length - (i+1),by omega,i+1,by omega,by omega,rfl,by simp,?_⟩
      rw[show i+1 - p=(i - p)+1 from by omega]
      exact XG hall hgi hd
     |false=>
      simp only[hrc1,h0,h2,ZK,seval]
      rw[htok (fun c hc'=>by rw[hgi]at hc';simp only[cA]at hc';rw[←hc'];exact hd)]
      simp only[AV.raw.injEq,Value.int.injEq,true_and,and_true,true_or]
      omega
    ·have:i=s.length:=by omega
     rw[htok (fun c hc=>by rw[fL (by simp;omega)]at hc;cases hc)]
     simp [this]
     omega
   |false=>
    have htok:Z3 (s.drop p)=if(s.drop p).take 2∈Yp then 2 else 1:=by
     simp only[Z3,hdp,hL,hD,cB,if_false]
    have hkd:Jr (s.drop p)=if(s.drop p).take 2∈Yp∨s[p]∈XM then 3 else 4:=by
     simp only[Jr,hdp,hL,hD,cB,if_false]
    simp only[hrc,h0,h2,Jb,Ja,Vb,Vd,Vc,Qp,Ql,reduceIte,reduceCtorEq,Nat.reduceEqDiff,Nat.reduceAdd,Nat.reduceMul,Nat.reduceLeDiff,Nat.reduceSub,Int.reduceLE,Int.reduceLT,Int.reduceToNat,cA,cB,true_and,and_true,Z5]
    refine⟨fun h1=> ?_,fun h1=> ?_⟩
    ·rw[Qe (by omega) (by omega)]at h1
     refine QW (cs:=Yp.map .str) (by kernel_rfl) fun t ht=> ?_
     have hne:r≠t:=fun e=>by subst e;rw[hr']at ht;cases ht
     have hrtc:(B.upd t (some .tip)) r=some (.cells [.str s,i64 p,i64 p,i64 0]):=by rw[Q5 hne,hrc]
     simp only[hrtc,h0,h2,Jb,Ja,Vb,Vd,Vc,Qp,Ql,reduceIte,reduceCtorEq,Nat.reduceEqDiff,Nat.reduceAdd,Nat.reduceMul,Nat.reduceLeDiff,Nat.reduceSub,Int.reduceLE,Int.reduceLT,Int.reduceToNat,cA,cB,true_and,and_true,Z5]
     rw[Qe (n:=(p:Int)+2) (by omega) (by omega)]
     refine⟨by omega,?_⟩
     have e1:List.take (((p:Int)+2).toNat - (p:Int).toNat) (List.drop (p:Int).toNat s)=(s.drop p).take 2:=by
      rw[show((p:Int)+2).toNat - (p:Int).toNat=2 from by omega];simp
     rw[e1]
     refine Qg (Qq.wk (.cons Jt (.cons (Wk.refl _) .nil)) (f79 G Yp ((s.drop p).take 2) (B.upd t (some .tip)) (by decide))) ?_
     rintro o A' ⟨rfl,rfl⟩
     by_cases hm:(s.drop p).take 2∈Yp
     ·simp only[fA hm]
      simp only[hrtc,h0,h2,Jb,Ja,Vb,Vd,Vc,Qp,Ql,reduceIte,reduceCtorEq,Nat.reduceEqDiff,Nat.reduceAdd,Nat.reduceMul,Nat.reduceLeDiff,Nat.reduceSub,Int.reduceLE,Int.reduceLT,Int.reduceToNat,cA,cB,true_and,and_true,Z5]
      rw[Qe (by omega) (by omega),htok,fC hm,hkd,fC (.inl hm)]
      exact⟨rfl,.inr ⟨t,ht,rfl⟩⟩
     ·simp only[fB hm]
      simp only[hrtc,h0,h2,h4,Jb,Ja,Vb,Vd,Vc,Qp,Ql,reduceIte,reduceCtorEq,Nat.reduceEqDiff,Nat.reduceAdd,Nat.reduceMul,Nat.reduceLeDiff,Nat.reduceSub,Int.reduceLE,Int.reduceLT,Int.reduceToNat,cA,cB,true_and,and_true,Z5]
      refine Q3 (RO G XM s[p] _) ?_
      simp only[h0,h2,h4,Jb,Ja,Vb,Vd,Vc,Qp,Ql,reduceIte,reduceCtorEq,Nat.reduceEqDiff,Nat.reduceAdd,Nat.reduceMul,Nat.reduceLeDiff,Nat.reduceSub,Int.reduceLE,Int.reduceLT,Int.reduceToNat,cA,cB,true_and,and_true,Z5]
      refine⟨fun hn=> ?_,fun hn=> ?_⟩
      ·have hmem:=(UI _ _).1 hn
       simp only[h0,h2,h4,hrtc,Jb,Ja,Vb,Vd,Vc,Qp,Ql,reduceIte,reduceCtorEq,Nat.reduceEqDiff,Nat.reduceAdd,Nat.reduceMul,Nat.reduceLeDiff,Nat.reduceSub,Int.reduceLE,Int.reduceLT,Int.reduceToNat,cA,cB,true_and,and_true,Z5]
       rw[Qe (by omega) (by omega),hkd,fC (.inr hmem),htok,fD hm]
       exact⟨rfl,.inr ⟨t,ht,rfl⟩⟩
      ·have hmem:s[p]∉XM:=fun h=>hn ((UI _ _).2 h)
       simp only[h0,h2,h4,hrtc,Jb,Ja,Vb,Vd,Vc,Qp,Ql,reduceIte,reduceCtorEq,Nat.reduceEqDiff,Nat.reduceAdd,Nat.reduceMul,Nat.reduceLeDiff,Nat.reduceSub,Int.reduceLE,Int.reduceLT,Int.reduceToNat,cA,cB,true_and,and_true,Z5]
       rw[Qe (by omega) (by omega),hkd,fD (by simp [hm,hmem]),htok,fD hm]
       exact⟨rfl,.inr ⟨t,ht,rfl⟩⟩
    ·rw[Qe (by omega) (by omega)]at h1
     have hm:(s.drop p).take 2∉Yp:=fun hm=>by
      have hl1:((s.drop p).take 2).length≤1:=by simp;omega
      have hl2:∀x∈Yp,x.length=2:=by decide
      have:=hl2 _ hm
      omega
     simp only[h0,h2,h4,Jb,Ja,Vb,Vd,Vc,Qp,Ql,reduceIte,reduceCtorEq,Nat.reduceEqDiff,Nat.reduceAdd,Nat.reduceMul,Nat.reduceLeDiff,Nat.reduceSub,Int.reduceLE,Int.reduceLT,Int.reduceToNat,cA,cB,true_and,and_true,Z5]
     refine Q3 (RO G XM s[p] _) ?_
     simp only[h0,h2,h4,Jb,Ja,Vb,Vd,Vc,Qp,Ql,reduceIte,reduceCtorEq,Nat.reduceEqDiff,Nat.reduceAdd,Nat.reduceMul,Nat.reduceLeDiff,Nat.reduceSub,Int.reduceLE,Int.reduceLT,Int.reduceToNat,cA,cB,true_and,and_true,Z5]
     refine⟨fun hn=> ?_,fun hn=> ?_⟩
     ·have hmem:=(UI _ _).1 hn
      simp only[h0,h2,h4,hrc,Jb,Ja,Vb,Vd,Vc,Qp,Ql,reduceIte,reduceCtorEq,Nat.reduceEqDiff,Nat.reduceAdd,Nat.reduceMul,Nat.reduceLeDiff,Nat.reduceSub,Int.reduceLE,Int.reduceLT,Int.reduceToNat,cA,cB,true_and,and_true,Z5]
      rw[Qe (by omega) (by omega),hkd,fC (.inr hmem),htok,fD hm]
      exact⟨rfl,.inl rfl⟩
     ·have hmem:s[p]∉XM:=fun h=>hn ((UI _ _).2 h)
      simp only[h0,h2,h4,hrc,Jb,Ja,Vb,Vd,Vc,Qp,Ql,reduceIte,reduceCtorEq,Nat.reduceEqDiff,Nat.reduceAdd,Nat.reduceMul,Nat.reduceLeDiff,Nat.reduceSub,Int.reduceLE,Int.reduceLT,Int.reduceToNat,cA,cB,true_and,and_true,Z5]
      rw[Qe (by omega) (by omega),hkd,fD (by simp [hm,hmem]),htok,fD hm]
      exact⟨rfl,.inl rfl⟩
 ·rintro env ds A' ⟨h0,h2,rfl,rfl|⟨t,ht,rfl⟩⟩
  ·simp only[Q0,h0,h2,JG,Jb,Ja,Vb,Vd,Vc,Qp,Ql,reduceIte,reduceCtorEq,Nat.reduceEqDiff,Nat.reduceAdd,Nat.reduceMul,Nat.reduceLeDiff,Nat.reduceSub,Int.reduceLE,Int.reduceLT,Int.reduceToNat,cA,cB,true_and,and_true,Z5]
   exact Qv rfl (VU.refl _)
  ·simp only[Q0,h0,h2,JG,Jb,Ja,Vb,Vd,Vc,Qp,Ql,reduceIte,reduceCtorEq,Nat.reduceEqDiff,Nat.reduceAdd,Nat.reduceMul,Nat.reduceLeDiff,Nat.reduceSub,Int.reduceLE,Int.reduceLT,Int.reduceToNat,cA,cB,true_and,and_true,Z5]
   refine Qv rfl (QK.wk (x:=JG s p (p+Z3 (s.drop p)) (Jr (s.drop p))) ?_ (Q0 ..) (by intros;simp [JG]))
   exact((QK.refl _ _).set ht (by simp)).at _
end
def rk (s u:Bs):AObj:=JG s (s.length - u.length) (s.length - u.length+Z3 u) (Jr u)
theorem W5 (s u:Bs):rk s u=.cells [.str s,i64 (s.length - u.length:Nat),i64 (s.length - u.length+Z3 u:Nat),i64 (Jr u)]:=rfl
def Y1 {α:Type}(r:Nat)(s:Bs)(A:Q2)(enc:α→AV):Res α→Out→Q2→Prop
 | .ok a u,o,A'=>o=.ret (enc a)∧A'=A.upd r (some (rk s u))
 | .bad u,o,A'=>o=.pan (U8 227 s u)∧A'=A.upd r none
section
variable {P:Program}{G:Nat→Option (List AV)}{α β:Type}{f:FuncId}{first args cap:List AV}{A A0:Q2}{r:Nat}{s:Bs}{enc:α→AV}{enc0:β→AV}{res:List LRes}
 {d:Option Nat}{l:List LInstr}{st:List Fr}{env:Qn}
theorem Z1 {R:Res α}{k:α→Bs→Res β}(h:Qq P G f (first++args++cap) A (Y1 r s A enc R))(hw:QK r A0 A)
 (hok:∀a u,R=.ok a u→(Cx.of P G false res (Y1 r s A0 enc0 (k a u))).ops l st (putD env d (enc a)) [] (A.upd r (some (rk s u)))):
 (Cx.of P G false res (Y1 r s A0 enc0 (R.bind k))).call (.func (.func f) first cap) args d l st env [] A:=by
 cases R with
 |ok a u=>exact Qg h fun o A' hk=>by obtain⟨rfl,rfl⟩:=hk;exact hok a u rfl
 |bad u=>
  refine Qg h fun o A' hk=> ?_
  obtain⟨rfl,rfl⟩:=hk
  show(Cx.of P G false res (Y1 r s A0 enc0 (.bad u))).X (Yq _ env) [] (U8 227 s u) (A.upd r none)
  rw[Xt]
  exact⟨_,hw.wk0,rfl,rfl⟩
theorem OR {u:Bs}(h:Qq P G f (first++args++cap) A (Y1 r s A enc (.bad u:Res α)))(hw:QK r A0 A):
 (Cx.of P G false res (Y1 r s A0 enc0 (.bad u))).call (.func (.func f) first cap) args d l st env [] A:=
 Z1 (R:=.bad u) (k:=fun(_:α) _=>.bad u) h hw fun _ _ h=>by cases h
theorem VL {v:AV}{a:β}{u:Bs}(h:Wk v (enc0 a))(hA:QK r A0 A)(hr:A r=some (rk s u)):U1 (some v) (Y1 r s A0 enc0 (.ok a u)) A:=
 J2 h (hA.wk hr (by intros;simp [rk,JG])) ⟨rfl,rfl⟩
end
def On (w:Bs):Prop:=∀u,cur u=w→Jr u=1∨Jr u=3
theorem UQ {u:Bs}{c:UInt8}{t:Bs}(h:cur u=c::t):∃r,u=c::r:=by
 cases u with
 |nil=>cases h
 |cons d r=>
  obtain⟨t',ht⟩:=IX (c:=d) (r:=r)
  rw[ht]at h
  simp only[fQ]at h
  exact⟨r,by rw[h.1]⟩
theorem ZG {c:UInt8}{t:Bs}(h:Yu c=true∨(J7 c=false∧c∈XM)):On (c::t):=fun u hu=>by
 obtain⟨r,rfl⟩:=UQ hu
 simp only[Jr]
 rcases h with h|⟨h1,h2⟩
 ·simp [h]
 ·by_cases hl:Yu c=true
  ·simp [hl]
  ·simp [hl,h1,h2]
theorem M5 {a b:UInt8}(ha:Yu a=false)(hd:J7 a=false)(hp:[a,b]∈Yp):On [a,b]:=fun u hu=>by
 obtain⟨r,rfl⟩:=UQ hu
 have h2:(a::r).take 2∈Yp:=by
  simp only[cur,Z3,ha,hd,cB,if_false]at hu
  split at hu
  ·rename_i h;exact h
  ·simp at hu
 exact .inr (by simp only[Jr,ha,hd,cB,if_false];rw[fC (.inl h2)])
theorem G8 {u:Bs}(h:Qf (cur u)=true):Jr u=1:=by
 cases hc:cur u with
 |nil=>rw[hc]at h;cases h
 |cons c t=>
  rw[hc]at h
  obtain⟨r,rfl⟩:=UQ hc
  have h':(decide ((c::t).length≤16)&&Yu c&& !decide (c::t∈IH)&&(c::t).all Y3)=true:=h
  simp only[cD]at h'
  simp [Jr,h'.1.1.2]
theorem Ww {u:Bs}:Jr u=2↔JK u=true:=by
 match u with
 |[]=>simp [Jr,JK]
 |c::r=>
  simp only[Jr,JK]
  cases hl:Yu c with
  |true=>
   have:J7 c=false:=by
    cases hd:J7 c with
    |false=>rfl
    |true=>rw[Lq hd]at hl;cases hl
   simp [this]
  |false=>
   cases hd:J7 c with
   |true=>simp
   |false=>
    simp only[cB,if_false,iff_false]
    split <;> decide
section
variable (G:Nat→Option (List AV))
theorem Ta {A:Q2}{r:Nat}{s u:Bs}(hr:A r=some (rk s u))(hu:At s u):QB Tryz.prog G 248 [.ptr r 0] A (.str (cur u)) A:=by
 have h1:=H5 u
 have h2:=hu.le
 rw[W5]at hr
 refine Q4 l248 (fE rfl) ?_
 simp only[B7,hr,QJ,seval]
 refine⟨⟨by omega,by omega,by omega⟩,Qv ?_ (VU.refl _)⟩
 rw[Int.toNat_natCast,Int.toNat_natCast,hu.drop,Nat.add_sub_cancel_left]
 rfl
theorem Tc {A:Q2}{r:Nat}{s u:Bs}(hr:A r=some (rk s u))(hu:At s u)(hs:s.length≤20000):QB Tryz.prog G 214 [.ptr r 0] A ZD (A.upd r (some (rk s (adv u)))):=by
 have h1:=H5 u
 have h2:=hu.le
 have e1:s.drop (s.length - u.length+Z3 u)=u.drop (Z3 u):=by rw[←lC,hu.drop]
 have h3:=Yx (u.drop (Z3 u)) false
 simp only[dW]at h3
 have e2:s.length - (adv u).length=s.length - u.length+Z3 u+QG false (u.drop (Z3 u)):=by
  simp only[adv,skip,dW];omega
 have:=Cu G hr (by omega) (by omega) _ rfl
 rw[e1,←lC,e1]at this
 have e3:rk s (adv u)=JG s (s.length - u.length+Z3 u+QG false (u.drop (Z3 u))) (s.length - u.length+Z3 u+QG false (u.drop (Z3 u))+Z3 (List.drop (QG false (u.drop (Z3 u))) (u.drop (Z3 u)))) (Jr (List.drop (QG false (u.drop (Z3 u))) (u.drop (Z3 u)))):=by
  simp only[rk,e2];rfl
 rw[e3];exact this
theorem k269 {A:Q2}{r:Nat}{s u w:Bs}(hr:A r=some (rk s u))(hu:At s u)(hw:On w):QB Tryz.prog G 269 [.ptr r 0,.str w] A (bo (decide (cur u=w))) A:=by
 have hr':=hr
 rw[W5]at hr'
 refine Q4 l269 (fE rfl) ?_
 simp only[CS,hr',QJ,seval]
 refine⟨fun h=> ?_,fun h=>⟨fun h2=> ?_,fun h2=> ?_⟩⟩
 ·refine Q3 (Ta G hr hu) ?_
  simp only[QJ,seval]
  exact⟨fun h=>Qv (by rw[fA h]) (VU.refl _),fun h=>Qv (by rw[fB h]) (VU.refl _)⟩
 ·refine Q3 (Ta G hr hu) ?_
  simp only[QJ,seval]
  exact⟨fun h=>Qv (by rw[fA h]) (VU.refl _),fun h=>Qv (by rw[fB h]) (VU.refl _)⟩
 ·refine Qv ?_ (VU.refl _)
  rw[fB fun hc=>by rcases hw u hc with h3|h3 <;> simp_all]
theorem XI {A:Q2}{r:Nat}{s u w:Bs}(hr:A r=some (rk s u))(hu:At s u)(hw:On w)(hs:s.length≤20000):
 QB Tryz.prog G 246 [.ptr r 0,.str w] A (bo (decide (cur u=w))) (if cur u=w then A.upd r (some (rk s (adv u)))else A):=by
 refine Q4 l246 (fE rfl) ?_
 simp only[B9,QJ,seval]
 refine Q3 (k269 G hr hu hw) ?_
 by_cases h:cur u=w
 ·simp only[fA h,fC h,QJ,seval]
  refine Q3 (Tc G hr hu hs) ?_
  simp only[QJ,seval]
  exact Qv rfl (VU.refl _)
 ·simp only[fB h,fD h,QJ,seval]
  exact Qv rfl (VU.refl _)
theorem Gt {A:Q2}{r:Nat}{s u:Bs}{α:Type}{enc:α→AV}(hr:A r=some (rk s u)):Qq Tryz.prog G 247 [.ptr r 0] A (Y1 r s A enc (.bad u)):=by
 rw[W5]at hr
 refine Q4 l247 (fE rfl) ?_
 simp only[B8,hr,QJ,seval]
 refine JV (v:=.agg [i64 (s.length - u.length:Nat)]) rfl ?_
 simp only[Xt,QJ,seval]
 exact⟨_,Xs (fun k=>by by_cases e:k=r <;> simp [Q2.upd,e,hr]),rfl,rfl⟩
theorem W1 {A:Q2}{r:Nat}{s u w:Bs}(hr:A r=some (rk s u))(hu:At s u)(hw:On w)(hs:s.length≤20000):
 Qq Tryz.prog G 216 [.ptr r 0,.str w] A (Y1 r s A (fun _=>ZD) (Qk w u)):=by
 refine Q4 l216 (fE rfl) ?_
 simp only[Br,QJ,seval]
 refine Q3 (XI G hr hu hw hs) ?_
 by_cases h:cur u=w
 ·simp only[fA h,fC h,Qk,QR,QJ,seval]
  exact VL (Wk.refl _) (by repeat first|exact QK.refl _ _|refine QK.at ?_ _|refine QK.set ?_ (by assumption) (by simp)) (Q0 ..)
 ·simp only[fB h,fD h,Qk,QJ,seval]
  exact OR (Gt (enc:=fun(_:Unit)=>ZD) G hr) (.refl _ _)
theorem Tb {A:Q2}{r:Nat}{s u:Bs}(hr:A r=some (rk s u))(hu:At s u)(hs:s.length≤20000):
 Qq Tryz.prog G 217 [.ptr r 0] A (Y1 r s A .str (Z8 u)):=by
 have hr':=hr
 rw[W5]at hr'
 refine Q4 l217 (fE rfl) ?_
 simp only[Bq,QJ,seval]
 refine Q3 (Ta G hr hu) ?_
 simp only[hr',QJ,seval]
 have hbad:Z8 u=.bad u→∀{env l st},(Cx.of Tryz.prog G false [.tmp 2] (Y1 r s A .str (Z8 u))).call (.func (.func 247) [] []) [.ptr r 0] (some 17) l st env [] A:=fun e env l st=>by
  rw[e];exact OR (Gt (enc:=fun(_:Unit)=>ZD) G hr) (.refl _ _)
 refine⟨fun h=> ?_,fun h=> ?_⟩
 ·refine Q3 (ID G (cur u) A (by have:=LW hu;omega)) ?_
  cases hn:Qf (cur u)with
  |true=>
   simp only[QJ,seval]
   refine Q3 (Tc G hr hu hs) ?_
   simp only[Z8,hn,QJ,seval]
   exact VL (Wk.refl _) (by repeat first|exact QK.refl _ _|refine QK.at ?_ _|refine QK.set ?_ (by assumption) (by simp)) (Q0 ..)
  |false=>
   simp only[QJ,seval]
   exact hbad (by simp [Z8,hn])
 ·have hn:Qf (cur u)=false:=by
   cases hn:Qf (cur u)with
   |false=>rfl
   |true=>exact absurd (G8 hn) h
  exact hbad (by simp [Z8,hn])
end
section
variable (G:Nat→Option (List AV))
theorem Ch (hG:Gl G){A:Q2}{r:Nat}{s u:Bs}{neg:Bool}(hr:A r=some (rk s u))(hu:At s u)(hs:s.length≤20000):
 Qq Tryz.prog G 294 [.ptr r 0,bo neg] A (Y1 r s A i64 (JT neg u)):=by
 have hr':=hr
 rw[W5]at hr'
 refine Q4 l294 (fE rfl) ?_
 simp only[CI,QJ,seval]
 refine Q3 (Ta G hr hu) ?_
 simp only[hr',QJ,seval]
 have hbad:JT neg u=.bad u→∀{env l st d},(Cx.of Tryz.prog G false [.tmp 4] (Y1 r s A i64 (JT neg u))).call (.func (.func 247) [] []) [.ptr r 0] d l st env [] A:=fun e env l st d=>by
  rw[e];exact OR (Gt (enc:=fun(_:Unit)=>ZD) G hr) (.refl _ _)
 cases hn:JK u with
 |false=>
  exact⟨fun h=>absurd (Ww.1 h) (by simp [hn]),fun _=>hbad (by simp [JT,hn])⟩
 |true=>
  refine⟨fun _=> ?_,fun h=>absurd (Ww.2 hn) h⟩
  refine Qg (Ct hG (cur u) _ (by have:=LW hu;omega)) ?_
  rintro o A' ⟨⟨n,e,rfl,he⟩,rfl⟩
  obtain⟨c,r',rfl⟩:∃c r',u=c::r':=by
   cases u with
   |nil=>cases hn
   |cons c r'=>exact⟨c,r',rfl⟩
  obtain⟨t,ht⟩:=IX (c:=c) (r:=r')
  have hpn:JT neg (c::r')=if 2147483648<Vh (cur (c::r'))∨(1<(cur (c::r')).length∧(cur (c::r')).head?=some 48)∨(neg=true∧Vh (cur (c::r'))=0)then .bad (c::r')else .ok (if neg then -(Vh (cur (c::r')):Int)else Vh (cur (c::r'))) (adv (c::r')):=by
   simp only[JT,hn,if_true]
  have hd:=I1 (by rw[ht];simp) (O3 hn)
  generalize hD:Vh (cur (c::r'))=D at hpn hd
  rw[ht]at hd he hpn⊢
  rcases he with⟨rfl,he⟩|⟨rfl,he⟩
  ·have hn':D<9223372036854775808∧n=D:=by
    rcases hd with⟨h1,h2⟩|⟨h1,h2⟩
    ·rw[h2]at he;cases he;exact⟨h1,rfl⟩
    ·rw[h2]at he;cases he
   obtain⟨hD63,rfl⟩:=hn'
   have h48:((c.toNat:Int)=48)↔(c::t).head?=some 48:=by
    simp only[List.head?_cons,cA]
    constructor
    ·intro h;apply UInt8.toNat_inj.1;show c.toNat=48;omega
    ·rintro rfl;rfl
   simp only[←h48,cE]at hpn
   cases neg
   ·have hno:(2147483648<D∨(1<t.length+1∧(c.toNat:Int)=48))→JT false (c::r')=.bad (c::r'):=fun h1=>by rw[hpn,fC (by omega)]
    have hfin:¬(2147483648<D∨(1<t.length+1∧(c.toNat:Int)=48))→JT false (c::r')=.ok D (adv (c::r')):=fun h1=>by rw[hpn,fD (by simp;omega)];rfl
    simp only[QJ,seval]
    refine⟨fun h2=>hbad (hno (by omega)),fun h2=>⟨fun h3=>⟨fun h4=>hbad (hno (by omega)),fun h4=> ?_⟩,fun h3=> ?_⟩⟩
    all_goals
     rw[hfin (by omega)]
     refine Q3 (Tc G hr hu hs) ?_
     simp only[QJ,seval]
     exact VL (Wk.refl _) (by repeat first|exact QK.refl _ _|refine QK.at ?_ _|refine QK.set ?_ (by assumption) (by simp)) (Q0 ..)
   ·have hno:(2147483648<D∨(1<t.length+1∧(c.toNat:Int)=48)∨D=0)→JT true (c::r')=.bad (c::r'):=fun h1=>by rw[hpn,fC (by simp;omega)]
    have hfin:¬(2147483648<D∨(1<t.length+1∧(c.toNat:Int)=48)∨D=0)→JT true (c::r')=.ok (-D) (adv (c::r')):=fun h1=>by rw[hpn,fD (by simp;omega)];rfl
    have hw:D≤2147483648→IntKind.i64.wrap (0 - (D:Int))= -(D:Int):=fun h=>by rw[Qe (by omega) (by omega)];omega
    simp only[QJ,seval]
    refine⟨fun h2=>hbad (hno (by omega)),fun h2=>⟨fun h3=>⟨fun h4=>hbad (hno (by omega)),fun h4=>⟨fun h5=>hbad (hno (by omega)),fun h5=> ?_⟩⟩,fun h3=>⟨fun h5=>hbad (hno (by omega)),fun h5=> ?_⟩⟩⟩
    all_goals
     rw[hfin (by omega)]
     refine Q3 (Tc G hr hu hs) ?_
     simp only[hw (by omega),QJ,seval]
     exact VL (Wk.refl _) (by repeat first|exact QK.refl _ _|refine QK.at ?_ _|refine QK.set ?_ (by assumption) (by simp)) (Q0 ..)
  ·simp only[QJ,seval]
   refine hbad ?_
   have:9223372036854775808≤D:=by
    rcases hd with⟨h1,h2⟩|⟨h1,h2⟩
    ·exact absurd h2 (he _)
    ·exact h1
   rw[hpn,fC (.inl (by omega))]
theorem Zi {α β γ:Type}{R:Res α}{k:α→Bs→Res β}{m:β→Bs→Res γ}:(R.bind k).bind m=R.bind fun a u=>(k a u).bind m:=by cases R <;> rfl
theorem k218 {α:Type}{A:Q2}{r:Nat}{s u:Bs}{one:Bs→Res α}{f:Nat}{enc:α→AV}{fn:FuncId}{first cap:List AV}(hr:A r=some (rk s u))(hu:At s u)(hs:s.length≤20000)(hf:u.length<f)
 (h1:∀A' u',QK r A A'→A' r=some (rk s u')→At s u'→u'.length≤u.length→Qq Tryz.prog G fn (first++cap) A' (Y1 r s A' enc (one u')))(htk:Tk one)(hsz:∀a,(enc a).cells.length=1)(hone:∀a,(enc a).cells.all AV.one=true):
 Qq Tryz.prog G 218 [.ptr r 0,.func (.func fn) first cap] A (Y1 r s A (Qr 1 fun a=>(enc a).cells) (U7 one f u)):=by
 refine Q4 l218 (fE rfl) ?_
 simp only[Bp,QJ,seval]
 refine Q3 (XI G hr hu (ZG (.inr (by decide))) hs) ?_
 by_cases hc:cur u=[41]
 ·simp only[fA hc,fC hc,U7,QJ,seval]
  exact VL Jf (by repeat first|exact QK.refl _ _|refine QK.at ?_ _|refine QK.set ?_ (by assumption) (by simp)) (Q0 ..)
 simp only[fB hc,fD hc,U7,ZO,Zi,QJ,seval]
 refine Z1 (by simpa using h1 A u (.refl _ _) hr hu (fG _)) (.refl _ _) fun x u1 hx=> ?_
 have b1:=htk _ _ _ _ hu hx
 simp only[QJ,seval]
 refine QW (cs:=(enc x).cells) (J5 _ _ (hsz x) (by decide)) fun t0 ht0=> ?_
 obtain⟨ht0r,ht00⟩:=Q9 ht0
 simp only[Qx,XR,Nat.one_ne_zero,QJ,seval]
 intro t ht
 obtain⟨ht1,ht⟩:=Q9 ht
 obtain⟨htr,hta⟩:=Q9 ht
 refine Qt (fun n env ds A'=>∃(l:List α) (u':Bs) (t:Nat),n=u'.length∧env 0=.ptr r 0∧env 1=.func (.func fn) first cap∧env 4=.slice 1 l.length (l.flatMap fun a=>(enc a).cells) (some t)∧ds=[]∧At s u'∧u'.length≤u.length∧
  l.length+u'.length≤s.length∧t≠r∧A t=none∧A' r=some (rk s u')∧A' t=some .tip∧QK r A A'∧∃f',u'.length<f'∧ZZ [44] one f [x] u1=ZZ [44] one f' l u') u1.length
  ⟨[x],u1,t,rfl,rfl,rfl,by simp [JD],rfl,b1.at',b1.beq.le,by have:=b1.lt;have:=hu.le;simp;omega,htr,hta,by simp [Q2.upd,htr.symm,ht0r.symm],by simp,(((QK.refl _ _).at _).set ht00 (by simp)).set hta (by simp),f,by have:=b1.lt;omega,rfl⟩ ?_
 rintro n env ds A' ⟨l,u',t,rfl,h0,h1',h4,rfl,hu',hle,hlen,htr,hta,hr',ht',hov,f',hf',hR⟩
 obtain⟨f',rfl⟩:∃m,f'=m+1:=⟨f' - 1,by omega⟩
 simp only[h0,h1',h4,QJ,seval]
 refine Q3 (XI G hr' hu' (ZG (.inr (by decide))) hs) ?_
 rw[hR]
 by_cases hc:cur u'=[44]
 ·have b2:=Beh.adv hu' hc (by decide)
  simp only[fA hc,fC hc,h0,h1',h4,ZZ,Zi,QJ,seval]
  refine Z1 (by simpa using h1 _ (adv u') (hov.at _) (Q0 ..) b2.at' (by have:=b2.lt;omega)) (hov.at _) fun y u2 hy=> ?_
  have b3:=htk _ _ _ _ b2.at' hy
  simp only[h4,QJ,seval]
  refine QW (cs:=(enc y).cells) (J5 _ _ (hsz y) (by decide)) fun t2 ht2=> ?_
  obtain⟨e1,ht2⟩:=Q9 ht2
  have e2:t2≠t:=(Q6 ht' ht2).symm
  have hl3:=b3.lt
  have hl2:=b2.lt
  simp only[h4,Qx,V5,QJ,seval]
  refine⟨by simp [Q2.upd,htr,e2.symm,ht'],by omega,hone y,fun t3 ht3=> ?_⟩
  obtain⟨e3,ht3⟩:=Q9 ht3
  obtain⟨e4,ht3⟩:=Q9 ht3
  refine⟨u2.length,by omega,l++[y],u2,t3,rfl,h0,h1',by simp,b3.at',by omega,by simp;omega,e4,hov.gone e4 ht3,?_,by simp,?_,f',by omega,by simp only[hy,Q7]⟩
  ·simp [Q2.upd,htr.symm,e1.symm,e4.symm]
  ·exact(((((hov.at _).tip e1 (by simpa[Q2.upd,e1]using ht2)).set hta (by simp))).set (hov.gone e4 ht3) (by simp))
 ·simp only[fB hc,fD hc,h0,h1',h4,ZZ,Q7,QJ,seval]
  refine Z1 (W1 G hr' hu' (ZG (.inr (by decide))) hs) hov fun _ u2 hy=> ?_
  simp only[h4,QJ,seval]
  exact VL Jt (hov.at _) (Q0 ..)
theorem k295 {α:Type}{A:Q2}{r:Nat}{s u:Bs}{one:Bs→Res α}{f:Nat}{enc:α→AV}{fn:FuncId}{first cap:List AV}(hr:A r=some (rk s u))(hu:At s u)(hs:s.length≤20000)(hf:u.length<f)
 (h1:∀A' u',QK r A A'→A' r=some (rk s u')→At s u'→u'.length≤u.length→Qq Tryz.prog G fn (first++cap) A' (Y1 r s A' enc (one u')))(htk:Tk one)(hsz:∀a,(enc a).cells.length=4)(hone:∀a,(enc a).cells.all AV.one=true):
 Qq Tryz.prog G 295 [.ptr r 0,.func (.func fn) first cap] A (Y1 r s A (Qr 4 fun a=>(enc a).cells) (U7 one f u)):=by
 refine Q4 l295 (fE rfl) ?_
 simp only[CH,QJ,seval]
 refine Q3 (XI G hr hu (ZG (.inr (by decide))) hs) ?_
 by_cases hc:cur u=[41]
 ·simp only[fA hc,fC hc,U7,QJ,seval]
  exact VL Jf (by repeat first|exact QK.refl _ _|refine QK.at ?_ _|refine QK.set ?_ (by assumption) (by simp)) (Q0 ..)
 simp only[fB hc,fD hc,U7,ZO,Zi,QJ,seval]
 refine Z1 (by simpa using h1 A u (.refl _ _) hr hu (fG _)) (.refl _ _) fun x u1 hx=> ?_
 have b1:=htk _ _ _ _ hu hx
 simp only[QJ,seval]
 refine QW (cs:=(enc x).cells) (J5 _ _ (hsz x) (by decide)) fun t0 ht0=> ?_
 obtain⟨ht0r,ht00⟩:=Q9 ht0
 simp only[Qx,XR,Nat.one_ne_zero,QJ,seval]
 intro t ht
 obtain⟨ht1,ht⟩:=Q9 ht
 obtain⟨htr,hta⟩:=Q9 ht
 refine Qt (fun n env ds A'=>∃(l:List α) (u':Bs) (t:Nat),n=u'.length∧env 0=.ptr r 0∧env 1=.func (.func fn) first cap∧env 4=.slice 4 l.length (l.flatMap fun a=>(enc a).cells) (some t)∧ds=[]∧At s u'∧u'.length≤u.length∧
  l.length+u'.length≤s.length∧t≠r∧A t=none∧A' r=some (rk s u')∧A' t=some .tip∧QK r A A'∧∃f',u'.length<f'∧ZZ [44] one f [x] u1=ZZ [44] one f' l u') u1.length
  ⟨[x],u1,t,rfl,rfl,rfl,by simp [JD],rfl,b1.at',b1.beq.le,by have:=b1.lt;have:=hu.le;simp;omega,htr,hta,by simp [Q2.upd,htr.symm,ht0r.symm],by simp,(((QK.refl _ _).at _).set ht00 (by simp)).set hta (by simp),f,by have:=b1.lt;omega,rfl⟩ ?_
 rintro n env ds A' ⟨l,u',t,rfl,h0,h1',h4,rfl,hu',hle,hlen,htr,hta,hr',ht',hov,f',hf',hR⟩
 obtain⟨f',rfl⟩:∃m,f'=m+1:=⟨f' - 1,by omega⟩
 simp only[h0,h1',h4,QJ,seval]
 refine Q3 (XI G hr' hu' (ZG (.inr (by decide))) hs) ?_
 rw[hR]
 by_cases hc:cur u'=[44]
 ·have b2:=Beh.adv hu' hc (by decide)
  simp only[fA hc,fC hc,h0,h1',h4,ZZ,Zi,QJ,seval]
  refine Z1 (by simpa using h1 _ (adv u') (hov.at _) (Q0 ..) b2.at' (by have:=b2.lt;omega)) (hov.at _) fun y u2 hy=> ?_
  have b3:=htk _ _ _ _ b2.at' hy
  simp only[h4,QJ,seval]
  refine QW (cs:=(enc y).cells) (J5 _ _ (hsz y) (by decide)) fun t2 ht2=> ?_
  obtain⟨e1,ht2⟩:=Q9 ht2
  have e2:t2≠t:=(Q6 ht' ht2).symm
  have hl3:=b3.lt
  have hl2:=b2.lt
  simp only[h4,Qx,V5,QJ,seval]
  refine⟨by simp [Q2.upd,htr,e2.symm,ht'],by omega,hone y,fun t3 ht3=> ?_⟩
  obtain⟨e3,ht3⟩:=Q9 ht3
  obtain⟨e4,ht3⟩:=Q9 ht3
  refine⟨u2.length,by omega,l++[y],u2,t3,rfl,h0,h1',by simp,b3.at',by omega,by simp;omega,e4,hov.gone e4 ht3,?_,by simp,?_,f',by omega,by simp only[hy,Q7]⟩
  ·simp [Q2.upd,htr.symm,e1.symm,e4.symm]
  ·exact(((((hov.at _).tip e1 (by simpa[Q2.upd,e1]using ht2)).set hta (by simp))).set (hov.gone e4 ht3) (by simp))
 ·simp only[fB hc,fD hc,h0,h1',h4,ZZ,Q7,QJ,seval]
  refine Z1 (W1 G hr' hu' (ZG (.inr (by decide))) hs) hov fun _ u2 hy=> ?_
  simp only[h4,QJ,seval]
  exact VL Jt (hov.at _) (Q0 ..)
end
def Ol (l:List (Bs×Int)):List (AV×AV):=l.map fun p=>(.str p.1,i64 p.2)
theorem Lu:∀(l:List (Bs×Int)) (t:Bs),VK (.str t) (Ol l)=some ((l.lookup t).map i64)
 |[],t=>rfl
 |(a,k)::l,t=>by
  show(if t==a then some (some (i64 k))else VK (.str t) (Ol l))=_
  rw[Lu l t,List.lookup_cons]
  cases h:t==a <;> simp
def QU (A A':Q2):Prop:=∀k,A' k=A k∨A k=none∧∀es,A' k=some (.mp es)→∀j l e,A j≠some (.mit (some k) l e)
theorem QU.refl (A:Q2):QU A A:=fun _=>.inl rfl
theorem QU.over {A A':Q2}(h:QU A A')(r:Nat):QK r A A':=fun k _=>(h k).elim .inl fun h=>.inr ⟨h.1,fun es he j l e hj=>absurd hj (h.2 es he j l e)⟩
theorem QU.keep {A A':Q2}(h:QU A A'){k:Nat}{o:AObj}(ho:A k=some o):A' k=some o:=by
 rcases h k with h1|h1
 ·rw[h1,ho]
 ·rw[h1.1]at ho;cases ho
theorem QU.gone {A A':Q2}(h:QU A A'){k:Nat}(ho:A' k=none):A k=none:=by
 rcases h k with h1|h1
 ·rw[←h1,ho]
 ·exact h1.1
theorem QU.set {A A':Q2}(h:QU A A'){t:Nat}(ht:A t=none){o:Option AObj}(ho:∀es,o≠some (.mp es)):QU A (A'.upd t o):=fun k=>by
 by_cases e:k=t
 ·subst e;rw[Q0];exact .inr ⟨ht,fun es he=>absurd he (ho es)⟩
 ·rw[Q5 e];exact h k
theorem QU.map {A A':Q2}(h:QU A A'){t:Nat}(ht:A t=none)(hi:WZ A' t)(o:Option AObj):QU A (A'.upd t o):=fun k=>by
 by_cases e:k=t
 ·subst e;exact .inr ⟨ht,fun _ _ j l e hj=>hi j _ l e (h.keep hj) rfl⟩
 ·rw[Q5 e];exact h k
section
variable (G:Nat→Option (List AV))
def jU (A:Q2)(o:Out)(A':Q2):Prop:=∃ms:List AV,o=.ret (.agg ms)∧ms.length=6∧QU A A'∧ms[0]? =some (.raw (.map none))∧∀n,1≤n→n≤5→∃m,ms[n]? =some (.map m)∧A' m=some (.mp (Ol (ZB n)))
theorem Ci (A:Q2):Qq Tryz.prog G 265 [] A (jU A):=by
 refine Q4 l265 (fE rfl) ?_
 simp only[CU,QJ,seval]
 intro c hc m1 h1 n1
 refine V1 n1 rfl ?_
 simp only[QJ,seval]
 intro m2 h2 n2
 refine V1 n2 rfl ?_
 simp only[QJ,seval]
 intro m3 h3 n3
 refine V1 n3 rfl ?_
 simp only[QJ,seval]
 refine V1 n3 rfl ?_
 simp only[QJ,seval]
 refine V1 n3 rfl ?_
 simp only[QJ,seval]
 refine V1 n3 rfl ?_
 simp only[QJ,seval]
 refine V1 n3 rfl ?_
 simp only[QJ,seval]
 refine V1 n3 rfl ?_
 simp only[QJ,seval]
 intro m4 h4 n4
 refine V1 n4 rfl ?_
 simp only[QJ,seval]
 refine V1 n4 rfl ?_
 simp only[QJ,seval]
 intro m5 h5 n5
 refine V1 n5 rfl ?_
 simp only[QJ,seval]
 refine V1 n5 rfl ?_
 simp only[QJ,seval]
 refine V1 n5 rfl ?_
 obtain⟨c1,a1⟩:=Q9 h1
 obtain⟨d2,h2⟩:=Q9 h2
 obtain⟨c2,a2⟩:=Q9 h2
 obtain⟨e3,h3⟩:=Q9 h3
 obtain⟨d3,h3⟩:=Q9 h3
 obtain⟨c3,a3⟩:=Q9 h3
 obtain⟨f4,h4⟩:=Q9 h4
 obtain⟨e4,h4⟩:=Q9 h4
 obtain⟨d4,h4⟩:=Q9 h4
 obtain⟨c4,a4⟩:=Q9 h4
 obtain⟨g5,h5⟩:=Q9 h5
 obtain⟨f5,h5⟩:=Q9 h5
 obtain⟨e5,h5⟩:=Q9 h5
 obtain⟨d5,h5⟩:=Q9 h5
 obtain⟨c5,a5⟩:=Q9 h5
 have hne:∀{a b:Nat} {A:Q2} {o:Option AObj},b≠a→(A.upd a o) b=A b:=fun h=>Q5 h
 simp only[hne c1.symm,hne c2.symm,hne c3.symm,hne c4.symm,hne c5.symm,ZK,seval]
 refine J2 (Wk.refl _) (VU.refl _) ⟨_,rfl,rfl,?_,rfl,?_⟩
 ·exact((((((QU.refl A).set hc (by simp)).map a1 n1 _).map a2 n2 _).map a3 n3 _).map a4 n4 _).map a5 n5 _ |>.set hc (by simp)
 ·intro n hn1 hn5
  have:n=1∨n=2∨n=3∨n=4∨n=5:=by omega
  rcases this with rfl|rfl|rfl|rfl|rfl
  ·exact⟨m1,rfl,by simp only[hne c1,hne d5.symm,hne d4.symm,hne d3.symm,hne d2.symm,Q0];rfl⟩
  ·exact⟨m2,rfl,by simp only[hne c2,hne e5.symm,hne e4.symm,hne e3.symm,Q0];rfl⟩
  ·exact⟨m3,rfl,by simp only[hne c3,hne f5.symm,hne f4.symm,Q0];rfl⟩
  ·exact⟨m4,rfl,by simp only[hne c4,hne g5.symm,Q0];rfl⟩
  ·exact⟨m5,rfl,by simp only[hne c5,Q0];rfl⟩
end
end Go.Proofs.YtcbjbgaefighcaaGreatDoor
