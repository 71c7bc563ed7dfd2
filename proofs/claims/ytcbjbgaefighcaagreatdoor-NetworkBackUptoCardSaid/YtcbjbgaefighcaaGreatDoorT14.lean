/- Part 14 of the proof. -/
import Derived.Test.YtcbjbgaefighcaaGreatDoorT0
import Derived.Test.YtcbjbgaefighcaaGreatDoorT8
import Derived.Test.YtcbjbgaefighcaaGreatDoorT9
import Derived.Test.YtcbjbgaefighcaaGreatDoorT12
import Derived.Test.YtcbjbgaefighcaaGreatDoorT13
set_option linter.all false
namespace Go.Proofs.YtcbjbgaefighcaaGreatDoor
open Go Go.Ax Go.Proofs
def JN (s:List UInt8)(a b:Nat)(k:Int):AObj:=.cells [.str s,i64 a,i64 b,i64 k]
def XX:Bs:=[43,45,42,47,37,60,62,61,33,63,58,59,44,46,40,41,123,125]
def Jv (u:Bs):Int:=match u with
 |[]=>0
 |c::r=>if Y1 c then 1 else if ZX c then 2 else if(c::r).take 2∈Yx∨c∈XX then 3 else 4
theorem UP:∀(l:Bs) (c:UInt8),0≤Lib.indexByte l c↔c∈l
 |[],c=>by simp [Lib.indexByte]
 |x::l,c=>by
  have ih:=UP l c
  have hge:=Lib.indexByte_ge l c
  simp only[Lib.indexByte]
  split
  ·rename_i h;simp [beq_iff_eq.1 h]
  ·rename_i h
   have hne:c≠x:=fun e=>by subst e;simp at h
   split
   ·rename_i h1;simp only[beq_iff_eq]at h1
    have:c∉l:=fun hm=>by have:=ih.2 hm;omega
    simp [hne,this]
   ·rename_i h1;simp only[beq_iff_eq]at h1
    have:c∈l:=ih.1 (by omega)
    simp [this];omega
section
variable (G:Nat→Option (List AV))
theorem B6 {A:Q3}{r:Nat}{s:List UInt8}{a b:Nat}{k:Int}(hr:A r=some (JN s a b k))(hb:b≤s.length)(hs:s.length<2^62)(p:Nat)(hp:p=b+QG false (s.drop b)):
 Qu Tryz.prog G 214 [.ptr r 0] A ZK (A.upd r (some (JN s p (p+Z4 (s.drop p)) (Jv (s.drop p))))):=by
 refine Q4 l214 (fE rfl) ?_
 unfold A5
 refine Qd (fun env ds A'=>env 0=.ptr r 0∧env 2=i64 b∧ds=[]∧A'=A) ?_ ?_
 ·simp only[hr,JN,ZR,seval]
 rintro env ds A' ⟨h0,h2,rfl,rfl⟩
 refine Qd (fun env ds A''=>env 0=.ptr r 0∧env 2=i64 p∧ds=[]∧A''=A') ?_ ?_
 ·rw[Xh]
  refine Qv (fun n env ds A1=>∃i:Nat,b≤i∧i≤s.length∧n=s.length - i∧env 0=.ptr r 0∧env 2=i64 i∧ds=[]∧A1=A'∧p=i+QG false (s.drop i)) (s.length - b) ⟨b,fG _,hb,rfl,h0,h2,rfl,rfl,hp⟩ ?_
  rintro n env ds A1 ⟨i,hbi,his,rfl,h0,h2,rfl,rfl,hpi⟩
  simp only[hr,JN,h0,h2,ZR,seval]
  refine⟨fun h=> ?_,fun h=> ?_⟩
  ·have hlt:i<s.length:=by omega
   refine⟨⟨by omega,by omega,by omega⟩,?_⟩
   have e1:List.take ((s.length:Int).toNat - (i:Int).toNat) (List.drop (i:Int).toNat s)=s.drop i:=by
    rw[dX (by simp)];simp
   simp only[e1,ZR,seval]
   refine Q2 (f75 G (s.drop i) [47,47] A1) ?_
   cases hpre:[47,47].isPrefixOf (s.drop i)with
   |true=>
    simp only[hr,JN,h0,h2,ZR,seval]
    refine⟨⟨by omega,by omega,by omega⟩,?_⟩
    simp only[e1,ZR,seval]
    refine Q2 (Sb G (s.drop i) 10 A1) ?_
    simp only[hr,JN,h0,h2,ZR,seval]
    obtain⟨hb1,hb2⟩:=O9 hpre
    have hble:=YD (s.drop i) true
    simp only[dW]at hble
    refine⟨fun hn=> ?_,fun hn=> ?_⟩
    ·have hx:=KL _ hn
     simp only[dW]at hx
     refine⟨0,by omega,s.length,hb,fG _,by omega,?_⟩
     rw[Qg (n:=(s.length:Int) - i) (by omega) (by omega),Qg (by omega) (by omega)]
     have e2:(i:Int)+((s.length:Int) - i)=s.length:=by omega
     simp only[e2,true_and,List.drop_length,QG,fS]
     omega
    ·obtain⟨k,hk⟩:∃k:Nat,Lib.indexByte (s.drop i) 10=k:=⟨(Lib.indexByte (s.drop i) 10).toNat,by omega⟩
     have hx:=KK _ k hk
     rw[lC]at hx
     rw[hk]at hb2
     refine⟨s.length - (i+k),by omega,i+k,by omega,by omega,rfl,?_⟩
     rw[hk,Qg (by omega) (by omega)]
     simp only[Int.natCast_add,true_and]
     omega
   |false=>
    simp only[hr,JN,h0,h2,ZR,seval]
    refine JY (v:=u8 s[i]) (by simp [hlt]) ?_
    simp only[hr,JN,h0,h2,ZR,seval]
    refine Q2 (Sb G [32,9,13,10] s[i] A1) ?_
    simp only[hr,JN,h0,h2,ZR,seval]
    have hone:=Lx (dP hlt) hpre
    refine⟨fun hn=> ?_,fun hn=> ?_⟩
    ·rw[(XQ _).1 hn]at hone
     simp only[cB,if_false]at hone
     simp only[hpi,hone,fS,true_and]
    ·have hw:W7 s[i]=true:=by
      cases hw:W7 s[i]with
      |true=>rfl
      |false=>exact absurd ((XQ _).2 hw) hn
     rw[hw,fC rfl]at hone
     refine⟨s.length - (i+1),by omega,i+1,by omega,by omega,rfl,?_⟩
     rw[Qg (by omega) (by omega)]
     simp only[Int.natCast_add,Int.cast_ofNat_Int,true_and]
     omega
  ·have:i=s.length:=by omega
   subst this
   simp only[List.drop_length,QG,fS]at hpi
   simp [hpi]
 rintro env ds A'' ⟨h0,h2,rfl,rfl⟩
 refine Qd (fun env ds A'=>env 0=.ptr r 0∧env 2=i64 p∧ds=[]∧A'=A''.upd r (some (JN s p p 0))) ?_ ?_
 ·simp only[show A'' r=some (.cells [.str s,i64 a,i64 b,i64 k])from hr,h0,h2,Ji,Jh,Ve,Vg,Vf,Qr,Qm,reduceIte,reduceCtorEq,Nat.reduceEqDiff,Nat.reduceAdd,Nat.reduceMul,Nat.reduceLeDiff,Nat.reduceSub,Int.reduceLE,Int.reduceLT,Int.reduceToNat,cA,cB,true_and,and_true,Z6]
  rfl
 rintro env ds A' ⟨h0,h2,rfl,rfl⟩
 have hr':(A''.upd r (some (JN s p p 0))) r=some (JN s p p 0):=Q0 _ _ _
 have hfin:A''.upd r (some (JN s p (p+Z4 (s.drop p)) (Jv (s.drop p))))=(A''.upd r (some (JN s p p 0))).upd r (some (JN s p (p+Z4 (s.drop p)) (Jv (s.drop p)))):=by rw[QZ]
 rw[hfin]
 generalize A''.upd r (some (JN s p p 0))=B at*
 have hps:p≤s.length:=by
  have:=YD (s.drop b) false
  simp only[dW]at this
  omega
 have hrc:B r=some (.cells [.str s,i64 p,i64 p,i64 0]):=hr'
 by_cases hpl:p=s.length
 ·have e1:Z4 (s.drop p)=0:=by rw[hpl];simp [Z4]
  have e2:Jv (s.drop p)=0:=by rw[hpl];simp [Jv]
  rw[e1,e2,fS]
  simp only[hrc,h0,h2,Ji,Jh,Ve,Vg,Vf,Qr,Qm,reduceIte,reduceCtorEq,Nat.reduceEqDiff,Nat.reduceAdd,Nat.reduceMul,Nat.reduceLeDiff,Nat.reduceSub,Int.reduceLE,Int.reduceLT,Int.reduceToNat,cA,cB,true_and,and_true,Z6]
  refine⟨fun _=> ?_,fun h=>absurd (by rw[hpl]) h⟩
  refine Qx rfl ?_
  rw[YP hr']
  exact U2.refl _
 have hlt:p<s.length:=by omega
 have hdp:s.drop p=s[p]::s.drop (p+1):=dP hlt
 refine Qd (fun env ds A'=>env 0=.ptr r 0∧env 2=i64 p∧ds=[]∧A'=B) ?_ ?_
 ·simp only[hrc,h0,h2,Ji,Jh,Ve,Vg,Vf,Qr,Qm,reduceIte,reduceCtorEq,Nat.reduceEqDiff,Nat.reduceAdd,Nat.reduceMul,Nat.reduceLeDiff,Nat.reduceSub,Int.reduceLE,Int.reduceLT,Int.reduceToNat,cA,cB,true_and,and_true,Z6]
  exact⟨fun h=>by omega,fun _=>by simp⟩
 rintro env ds A' ⟨h0,h2,rfl,rfl⟩
 refine Qd (fun env ds B'=>env 0=.ptr r 0∧env 2=i64 p∧env 4=u8 s[p]∧ds=[]∧B'=A') ?_ ?_
 ·simp only[hrc,h0,h2,Ji,Jh,Ve,Vg,Vf,Qr,Qm,reduceIte,reduceCtorEq,Nat.reduceEqDiff,Nat.reduceAdd,Nat.reduceMul,Nat.reduceLeDiff,Nat.reduceSub,Int.reduceLE,Int.reduceLT,Int.reduceToNat,cA,cB,true_and,and_true,Z6]
  refine JY (v:=u8 s[p]) (by simp [hlt]) ?_
  simp only[hrc,h0,h2,Ji,Jh,Ve,Vg,Vf,Qr,Qm,reduceIte,reduceCtorEq,Nat.reduceEqDiff,Nat.reduceAdd,Nat.reduceMul,Nat.reduceLeDiff,Nat.reduceSub,Int.reduceLE,Int.reduceLT,Int.reduceToNat,cA,cB,true_and,and_true,Z6]
 rintro env ds B ⟨h0,h2,h4,rfl,rfl⟩
 refine Qd (fun env ds A'=>env 0=.ptr r 0∧env 2=i64 (p+Z4 (s.drop p))∧ds=[]∧(A'=B.upd r (some (JN s p p (Jv (s.drop p))))∨∃t,B t=none∧A'=(B.upd t (some .tip)).upd r (some (JN s p p (Jv (s.drop p)))))) ?_ ?_
 ·simp only[h0,h2,h4,Ji,Jh,Ve,Vg,Vf,Qr,Qm,reduceIte,reduceCtorEq,Nat.reduceEqDiff,Nat.reduceAdd,Nat.reduceMul,Nat.reduceLeDiff,Nat.reduceSub,Int.reduceLE,Int.reduceLT,Int.reduceToNat,cA,cB,true_and,and_true,Z6]
  refine Q2 (P1 G s[p] B) ?_
  cases hL:Y1 s[p]with
  |true=>
   have hk:Jv (s.drop p)=1:=by simp only[Jv,hdp,hL,if_true]
   rw[hk]
   simp only[hrc,h0,h2,ZR,seval]
   have hrc1:(B.upd r (some (JN s p p 1))) r=some (.cells [.str s,i64 p,i64 p,i64 1]):=Q0 ..
   change Cx.run _ _ _ _ _ (B.upd r (some (JN s p p 1)))
   refine Qv (fun n env ds A1=>∃i:Nat,p≤i∧i≤s.length∧n=s.length - i∧env 0=.ptr r 0∧env 2=i64 i∧ds=[]∧A1=B.upd r (some (JN s p p 1))∧((s.drop p).take (i - p)).all JI=true) (s.length - p)
    ⟨p,fG _,hps,rfl,by simp [JH,h0],by simp [JH,h2],rfl,rfl,by simp⟩ ?_
   rintro n env ds A1 ⟨i,hpi,his,rfl,h0,h2,rfl,rfl,hall⟩
   have htok:(∀c,(s.drop p)[i - p]? =some c→JI c=false)→Z4 (s.drop p)=i - p:=fun hst=>by
    have:=Up (by simp;omega) hall hst
    simp only[Z4,hdp,hL,if_true]
    rw[←hdp];exact this
   simp only[hrc1,h0,h2,ZR,seval]
   refine⟨fun h=> ?_,fun h=> ?_⟩
   ·have hlt':i<s.length:=by omega
    refine JY (v:=u8 s[i]) (by simp [hlt']) ?_
    simp only[hrc1,h0,h2,ZR,seval]
    refine Q2 (P1 G s[i] _) ?_
    have hgi:(s.drop p)[i - p]? =some s[i]:=by
     rw[List.getElem?_drop,show p+(i - p)=i from by omega];simp [hlt']
    have hgo:JI s[i]=true→∃m,m<s.length - i∧∃i_1:Nat,p≤i_1∧i_1≤s.length∧m=s.length - i_1∧i64 ((i:Int)+1)=i64 i_1∧(List.take (i_1 - p) (List.drop p s)).all JI=true:=fun hc=>by
     refine⟨s.length - (i+1),by omega,i+1,by omega,by omega,rfl,by simp,?_⟩
     rw[show i+1 - p=(i - p)+1 from by omega]
     exact XR hall hgi hc
    have hin:JI s[i]=false→i64 i=i64 (p+Z4 (s.drop p)):=fun hc=>by
     rw[htok (fun c hc'=>by rw[hgi]at hc';simp only[cA]at hc';rw[←hc'];exact hc)]
     simp only[AV.raw.injEq,Value.int.injEq,true_and]
     omega
    cases hl:Y1 s[i]with
    |true=>
     simp only[hrc1,h0,h2,ZR,seval]
     rw[Qg (by omega) (by omega)]
     exact hgo (by simp [JI,hl])
    |false=>
     simp only[hrc1,h0,h2,ZR,seval]
     refine JY (v:=u8 s[i]) (by simp [hlt']) ?_
     simp only[hrc1,h0,h2,ZR,seval]
     refine Q2 (P0 G s[i] _) ?_
     cases hd:ZX s[i]with
     |true=>
      simp only[hrc1,h0,h2,ZR,seval]
      rw[Qg (by omega) (by omega)]
      exact hgo (by simp [JI,hd])
     |false=>
      simp only[hrc1,h0,h2,ZR,seval]
      refine JY (v:=u8 s[i]) (by simp [hlt']) ?_
      simp only[hrc1,h0,h2,ZR,seval]
      have h95:((s[i].toNat:Int)==95)=(s[i]==95):=Rn s[i] 95
      refine⟨fun hc=> ?_,fun hc=> ?_⟩ <;> have hc:_=_:=h95.symm.trans (by first|exact beq_iff_eq.2 hc|exact beq_false_of_ne hc)
      ·rw[Qg (by omega) (by omega)]
       exact hgo (by simp [JI,hc])
      ·simp only[hin (by simp [JI,hl,hd,hc]),true_and,true_or,and_true]
   ·have:i=s.length:=by omega
    rw[htok (fun c hc=>by rw[fL (by simp;omega)]at hc;cases hc)]
    simp [this]
    omega
  |false=>
   simp only[h4,ZR,seval]
   refine Q2 (P0 G s[p] B) ?_
   cases hD:ZX s[p]with
   |true=>
    have hk:Jv (s.drop p)=2:=by simp only[Jv,hdp,hL,hD,if_true,cB,if_false]
    rw[hk]
    simp only[hrc,h0,h2,ZR,seval]
    have hrc1:(B.upd r (some (JN s p p 2))) r=some (.cells [.str s,i64 p,i64 p,i64 2]):=Q0 ..
    change Cx.run _ _ _ _ _ (B.upd r (some (JN s p p 2)))
    refine Qv (fun n env ds A1=>∃i:Nat,p≤i∧i≤s.length∧n=s.length - i∧env 0=.ptr r 0∧env 2=i64 i∧ds=[]∧A1=B.upd r (some (JN s p p 2))∧((s.drop p).take (i - p)).all ZX=true) (s.length - p)
     ⟨p,fG _,hps,rfl,by simp [JH,h0],by simp [JH,h2],rfl,rfl,by simp⟩ ?_
    rintro n env ds A1 ⟨i,hpi,his,rfl,h0,h2,rfl,rfl,hall⟩
    have htok:(∀c,(s.drop p)[i - p]? =some c→ZX c=false)→Z4 (s.drop p)=i - p:=fun hst=>by
     have:=Up (by simp;omega) hall hst
     simp only[Z4,hdp,hL,hD,if_true,cB,if_false]
     rw[←hdp];exact this
    simp only[hrc1,h0,h2,ZR,seval]
    refine⟨fun h=> ?_,fun h=> ?_⟩
    ·have hlt':i<s.length:=by omega
     refine JY (v:=u8 s[i]) (by simp [hlt']) ?_
     simp only[hrc1,h0,h2,ZR,seval]
     refine Q2 (P0 G s[i] _) ?_
     have hgi:(s.drop p)[i - p]? =some s[i]:=by
      rw[List.getElem?_drop,show p+(i - p)=i from by omega];simp [hlt']
     cases hd:ZX s[i]with
     |true=>
      simp only[hrc1,h0,h2,ZR,seval]
      rw[Qg (by omega) (by omega)]
      refine⟨s.length - (i+1),by omega,i+1,by omega,by omega,rfl,by simp,?_⟩
      rw[show i+1 - p=(i - p)+1 from by omega]
      exact XR hall hgi hd
     |false=>
      simp only[hrc1,h0,h2,ZR,seval]
      rw[htok (fun c hc'=>by rw[hgi]at hc';simp only[cA]at hc';rw[←hc'];exact hd)]
      simp only[AV.raw.injEq,Value.int.injEq,true_and,and_true,true_or]
      omega
    ·have:i=s.length:=by omega
     rw[htok (fun c hc=>by rw[fL (by simp;omega)]at hc;cases hc)]
     simp [this]
     omega
   |false=>
    have htok:Z4 (s.drop p)=if(s.drop p).take 2∈Yx then 2 else 1:=by
     simp only[Z4,hdp,hL,hD,cB,if_false]
    have hkd:Jv (s.drop p)=if(s.drop p).take 2∈Yx∨s[p]∈XX then 3 else 4:=by
     simp only[Jv,hdp,hL,hD,cB,if_false]
    simp only[hrc,h0,h2,Ji,Jh,Ve,Vg,Vf,Qr,Qm,reduceIte,reduceCtorEq,Nat.reduceEqDiff,Nat.reduceAdd,Nat.reduceMul,Nat.reduceLeDiff,Nat.reduceSub,Int.reduceLE,Int.reduceLT,Int.reduceToNat,cA,cB,true_and,and_true,Z6]
    refine⟨fun h1=> ?_,fun h1=> ?_⟩
    ·rw[Qg (by omega) (by omega)]at h1
     refine QY (cs:=Yx.map .str) (by kernel_rfl) fun t ht=> ?_
     have hne:r≠t:=fun e=>by subst e;rw[hr']at ht;cases ht
     have hrtc:(B.upd t (some .tip)) r=some (.cells [.str s,i64 p,i64 p,i64 0]):=by rw[Q5 hne,hrc]
     simp only[hrtc,h0,h2,Ji,Jh,Ve,Vg,Vf,Qr,Qm,reduceIte,reduceCtorEq,Nat.reduceEqDiff,Nat.reduceAdd,Nat.reduceMul,Nat.reduceLeDiff,Nat.reduceSub,Int.reduceLE,Int.reduceLT,Int.reduceToNat,cA,cB,true_and,and_true,Z6]
     rw[Qg (n:=(p:Int)+2) (by omega) (by omega)]
     refine⟨by omega,?_⟩
     have e1:List.take (((p:Int)+2).toNat - (p:Int).toNat) (List.drop (p:Int).toNat s)=(s.drop p).take 2:=by
      rw[show((p:Int)+2).toNat - (p:Int).toNat=2 from by omega];simp
     rw[e1]
     refine Qk (Qt.wk (.cons Ym (.cons (Wk.refl _) .nil)) (f79 G Yx ((s.drop p).take 2) (B.upd t (some .tip)) (by decide))) ?_
     rintro o A' ⟨rfl,rfl⟩
     by_cases hm:(s.drop p).take 2∈Yx
     ·simp only[fA hm]
      simp only[hrtc,h0,h2,Ji,Jh,Ve,Vg,Vf,Qr,Qm,reduceIte,reduceCtorEq,Nat.reduceEqDiff,Nat.reduceAdd,Nat.reduceMul,Nat.reduceLeDiff,Nat.reduceSub,Int.reduceLE,Int.reduceLT,Int.reduceToNat,cA,cB,true_and,and_true,Z6]
      rw[Qg (by omega) (by omega),htok,fC hm,hkd,fC (.inl hm)]
      exact⟨rfl,.inr ⟨t,ht,rfl⟩⟩
     ·simp only[fB hm]
      simp only[hrtc,h0,h2,h4,Ji,Jh,Ve,Vg,Vf,Qr,Qm,reduceIte,reduceCtorEq,Nat.reduceEqDiff,Nat.reduceAdd,Nat.reduceMul,Nat.reduceLeDiff,Nat.reduceSub,Int.reduceLE,Int.reduceLT,Int.reduceToNat,cA,cB,true_and,and_true,Z6]
      refine Q2 (Sb G XX s[p] _) ?_
      simp only[h0,h2,h4,Ji,Jh,Ve,Vg,Vf,Qr,Qm,reduceIte,reduceCtorEq,Nat.reduceEqDiff,Nat.reduceAdd,Nat.reduceMul,Nat.reduceLeDiff,Nat.reduceSub,Int.reduceLE,Int.reduceLT,Int.reduceToNat,cA,cB,true_and,and_true,Z6]
      refine⟨fun hn=> ?_,fun hn=> ?_⟩
      ·have hmem:=(UP _ _).1 hn
       simp only[h0,h2,h4,hrtc,Ji,Jh,Ve,Vg,Vf,Qr,Qm,reduceIte,reduceCtorEq,Nat.reduceEqDiff,Nat.reduceAdd,Nat.reduceMul,Nat.reduceLeDiff,Nat.reduceSub,Int.reduceLE,Int.reduceLT,Int.reduceToNat,cA,cB,true_and,and_true,Z6]
       rw[Qg (by omega) (by omega),hkd,fC (.inr hmem),htok,fD hm]
       exact⟨rfl,.inr ⟨t,ht,rfl⟩⟩
      ·have hmem:s[p]∉XX:=fun h=>hn ((UP _ _).2 h)
       simp only[h0,h2,h4,hrtc,Ji,Jh,Ve,Vg,Vf,Qr,Qm,reduceIte,reduceCtorEq,Nat.reduceEqDiff,Nat.reduceAdd,Nat.reduceMul,Nat.reduceLeDiff,Nat.reduceSub,Int.reduceLE,Int.reduceLT,Int.reduceToNat,cA,cB,true_and,and_true,Z6]
       rw[Qg (by omega) (by omega),hkd,fD (by simp [hm,hmem]),htok,fD hm]
       exact⟨rfl,.inr ⟨t,ht,rfl⟩⟩
    ·rw[Qg (by omega) (by omega)]at h1
     have hm:(s.drop p).take 2∉Yx:=fun hm=>by
      have hl1:((s.drop p).take 2).length≤1:=by simp;omega
      have hl2:∀x∈Yx,x.length=2:=by decide
      have:=hl2 _ hm
      omega
     simp only[h0,h2,h4,Ji,Jh,Ve,Vg,Vf,Qr,Qm,reduceIte,reduceCtorEq,Nat.reduceEqDiff,Nat.reduceAdd,Nat.reduceMul,Nat.reduceLeDiff,Nat.reduceSub,Int.reduceLE,Int.reduceLT,Int.reduceToNat,cA,cB,true_and,and_true,Z6]
     refine Q2 (Sb G XX s[p] _) ?_
     simp only[h0,h2,h4,Ji,Jh,Ve,Vg,Vf,Qr,Qm,reduceIte,reduceCtorEq,Nat.reduceEqDiff,Nat.reduceAdd,Nat.reduceMul,Nat.reduceLeDiff,Nat.reduceSub,Int.reduceLE,Int.reduceLT,Int.reduceToNat,cA,cB,true_and,and_true,Z6]
     refine⟨fun hn=> ?_,fun hn=> ?_⟩
     ·have hmem:=(UP _ _).1 hn
      simp only[h0,h2,h4,hrc,Ji,Jh,Ve,Vg,Vf,Qr,Qm,reduceIte,reduceCtorEq,Nat.reduceEqDiff,Nat.reduceAdd,Nat.reduceMul,Nat.reduceLeDiff,Nat.reduceSub,Int.reduceLE,Int.reduceLT,Int.reduceToNat,cA,cB,true_and,and_true,Z6]
      rw[Qg (by omega) (by omega),hkd,fC (.inr hmem),htok,fD hm]
      exact⟨rfl,.inl rfl⟩
     ·have hmem:s[p]∉XX:=fun h=>hn ((UP _ _).2 h)
      simp only[h0,h2,h4,hrc,Ji,Jh,Ve,Vg,Vf,Qr,Qm,reduceIte,reduceCtorEq,Nat.reduceEqDiff,Nat.reduceAdd,Nat.reduceMul,Nat.reduceLeDiff,Nat.reduceSub,Int.reduceLE,Int.reduceLT,Int.reduceToNat,cA,cB,true_and,and_true,Z6]
      rw[Qg (by omega) (by omega),hkd,fD (by simp [hm,hmem]),htok,fD hm]
      exact⟨rfl,.inl rfl⟩
 ·rintro env ds A' ⟨h0,h2,rfl,rfl|⟨t,ht,rfl⟩⟩
  ·simp only[Q0,h0,h2,JN,Ji,Jh,Ve,Vg,Vf,Qr,Qm,reduceIte,reduceCtorEq,Nat.reduceEqDiff,Nat.reduceAdd,Nat.reduceMul,Nat.reduceLeDiff,Nat.reduceSub,Int.reduceLE,Int.reduceLT,Int.reduceToNat,cA,cB,true_and,and_true,Z6]
   exact Qx rfl (U2.refl _)
  ·simp only[Q0,h0,h2,JN,Ji,Jh,Ve,Vg,Vf,Qr,Qm,reduceIte,reduceCtorEq,Nat.reduceEqDiff,Nat.reduceAdd,Nat.reduceMul,Nat.reduceLeDiff,Nat.reduceSub,Int.reduceLE,Int.reduceLT,Int.reduceToNat,cA,cB,true_and,and_true,Z6]
   refine Qx rfl (QK.wk (x:=JN s p (p+Z4 (s.drop p)) (Jv (s.drop p))) ?_ (Q0 ..) (by intros;simp [JN]))
   exact((QK.refl _ _).set ht (by simp)).at _
end
def rk (s u:Bs):AObj:=JN s (s.length - u.length) (s.length - u.length+Z4 u) (Jv u)
theorem We (s u:Bs):rk s u=.cells [.str s,i64 (s.length - u.length:Nat),i64 (s.length - u.length+Z4 u:Nat),i64 (Jv u)]:=rfl
def Y5 {α:Type}(r:Nat)(s:Bs)(A:Q3)(enc:α→AV):Res α→Out→Q3→Prop
 | .ok a u,o,A'=>o=.ret (enc a)∧A'=A.upd r (some (rk s u))
 | .bad u,o,A'=>o=.pan (Ug 227 s u)∧A'=A.upd r none
section
variable {P:Program}{G:Nat→Option (List AV)}{α β:Type}{f:FuncId}{first args cap:List AV}{A A0:Q3}{r:Nat}{s:Bs}{enc:α→AV}{enc0:β→AV}{res:List LRes}
 {d:Option Nat}{l:List LInstr}{st:List Fr}{env:Qo}
theorem Z2 {R:Res α}{k:α→Bs→Res β}(h:Qt P G f (first++args++cap) A (Y5 r s A enc R))(hw:QK r A0 A)
 (hok:∀a u,R=.ok a u→(Cx.of P G false res (Y5 r s A0 enc0 (k a u))).ops l st (putD env d (enc a)) [] (A.upd r (some (rk s u)))):
 (Cx.of P G false res (Y5 r s A0 enc0 (R.bind k))).call (.func (.func f) first cap) args d l st env [] A:=by
 cases R with
 |ok a u=>exact Qk h fun o A' hk=>by obtain⟨rfl,rfl⟩:=hk;exact hok a u rfl
 |bad u=>
  refine Qk h fun o A' hk=> ?_
  obtain⟨rfl,rfl⟩:=hk
  show(Cx.of P G false res (Y5 r s A0 enc0 (.bad u))).X (Yy _ env) [] (Ug 227 s u) (A.upd r none)
  rw[XF]
  exact⟨_,hw.wk0,rfl,rfl⟩
theorem OO {u:Bs}(h:Qt P G f (first++args++cap) A (Y5 r s A enc (.bad u:Res α)))(hw:QK r A0 A):
 (Cx.of P G false res (Y5 r s A0 enc0 (.bad u))).call (.func (.func f) first cap) args d l st env [] A:=
 Z2 (R:=.bad u) (k:=fun(_:α) _=>.bad u) h hw fun _ _ h=>by cases h
theorem VO {v:AV}{a:β}{u:Bs}(h:Wk v (enc0 a))(hA:QK r A0 A)(hr:A r=some (rk s u)):Vl (some v) (Y5 r s A0 enc0 (.ok a u)) A:=
 J0 h (hA.wk hr (by intros;simp [rk,JN])) ⟨rfl,rfl⟩
end
def Om (w:Bs):Prop:=∀u,cur u=w→Jv u=1∨Jv u=3
theorem UV {u:Bs}{c:UInt8}{t:Bs}(h:cur u=c::t):∃r,u=c::r:=by
 cases u with
 |nil=>cases h
 |cons d r=>
  obtain⟨t',ht⟩:=IS (c:=d) (r:=r)
  rw[ht]at h
  simp only[fQ]at h
  exact⟨r,by rw[h.1]⟩
theorem ZN {c:UInt8}{t:Bs}(h:Y1 c=true∨(ZX c=false∧c∈XX)):Om (c::t):=fun u hu=>by
 obtain⟨r,rfl⟩:=UV hu
 simp only[Jv]
 rcases h with h|⟨h1,h2⟩
 ·simp [h]
 ·by_cases hl:Y1 c=true
  ·simp [hl]
  ·simp [hl,h1,h2]
theorem M9 {a b:UInt8}(ha:Y1 a=false)(hd:ZX a=false)(hp:[a,b]∈Yx):Om [a,b]:=fun u hu=>by
 obtain⟨r,rfl⟩:=UV hu
 have h2:(a::r).take 2∈Yx:=by
  simp only[cur,Z4,ha,hd,cB,if_false]at hu
  split at hu
  ·rename_i h;exact h
  ·simp at hu
 exact .inr (by simp only[Jv,ha,hd,cB,if_false];rw[fC (.inl h2)])
theorem Gs {u:Bs}(h:Qe (cur u)=true):Jv u=1:=by
 cases hc:cur u with
 |nil=>rw[hc]at h;cases h
 |cons c t=>
  rw[hc]at h
  obtain⟨r,rfl⟩:=UV hc
  have h':(decide ((c::t).length≤16)&&Y1 c&& !decide (c::t∈WG)&&(c::t).all JI)=true:=h
  simp only[cD]at h'
  simp [Jv,h'.1.1.2]
theorem WC {u:Bs}:Jv u=2↔JP u=true:=by
 match u with
 |[]=>simp [Jv,JP]
 |c::r=>
  simp only[Jv,JP]
  cases hl:Y1 c with
  |true=>
   have:ZX c=false:=by
    cases hd:ZX c with
    |false=>rfl
    |true=>rw[Ln hd]at hl;cases hl
   simp [this]
  |false=>
   cases hd:ZX c with
   |true=>simp
   |false=>
    simp only[cB,if_false,iff_false]
    split <;> decide
section
variable (G:Nat→Option (List AV))
theorem To {A:Q3}{r:Nat}{s u:Bs}(hr:A r=some (rk s u))(hu:At s u):Qu Tryz.prog G 248 [.ptr r 0] A (.str (cur u)) A:=by
 have h1:=H3 u
 have h2:=hu.le
 rw[We]at hr
 refine Q4 l248 (fE rfl) ?_
 simp only[BF,hr,QJ,seval]
 refine⟨⟨by omega,by omega,by omega⟩,Qx ?_ (U2.refl _)⟩
 rw[Int.toNat_natCast,Int.toNat_natCast,hu.drop,Nat.add_sub_cancel_left]
 rfl
theorem Tq {A:Q3}{r:Nat}{s u:Bs}(hr:A r=some (rk s u))(hu:At s u)(hs:s.length≤20000):Qu Tryz.prog G 214 [.ptr r 0] A ZK (A.upd r (some (rk s (adv u)))):=by
 have h1:=H3 u
 have h2:=hu.le
 have e1:s.drop (s.length - u.length+Z4 u)=u.drop (Z4 u):=by rw[←lC,hu.drop]
 have h3:=YD (u.drop (Z4 u)) false
 simp only[dW]at h3
 have e2:s.length - (adv u).length=s.length - u.length+Z4 u+QG false (u.drop (Z4 u)):=by
  simp only[adv,skip,dW];omega
 have:=B6 G hr (by omega) (by omega) _ rfl
 rw[e1,←lC,e1]at this
 have e3:rk s (adv u)=JN s (s.length - u.length+Z4 u+QG false (u.drop (Z4 u))) (s.length - u.length+Z4 u+QG false (u.drop (Z4 u))+Z4 (List.drop (QG false (u.drop (Z4 u))) (u.drop (Z4 u)))) (Jv (List.drop (QG false (u.drop (Z4 u))) (u.drop (Z4 u)))):=by
  simp only[rk,e2];rfl
 rw[e3];exact this
theorem k269 {A:Q3}{r:Nat}{s u w:Bs}(hr:A r=some (rk s u))(hu:At s u)(hw:Om w):Qu Tryz.prog G 269 [.ptr r 0,.str w] A (bo (decide (cur u=w))) A:=by
 have hr':=hr
 rw[We]at hr'
 refine Q4 l269 (fE rfl) ?_
 simp only[Bu,hr',QJ,seval]
 refine⟨fun h=> ?_,fun h=>⟨fun h2=> ?_,fun h2=> ?_⟩⟩
 ·refine Q2 (To G hr hu) ?_
  simp only[QJ,seval]
  exact⟨fun h=>Qx (by rw[fA h]) (U2.refl _),fun h=>Qx (by rw[fB h]) (U2.refl _)⟩
 ·refine Q2 (To G hr hu) ?_
  simp only[QJ,seval]
  exact⟨fun h=>Qx (by rw[fA h]) (U2.refl _),fun h=>Qx (by rw[fB h]) (U2.refl _)⟩
 ·refine Qx ?_ (U2.refl _)
  rw[fB fun hc=>by rcases hw u hc with h3|h3 <;> simp_all]
theorem XU {A:Q3}{r:Nat}{s u w:Bs}(hr:A r=some (rk s u))(hu:At s u)(hw:Om w)(hs:s.length≤20000):
 Qu Tryz.prog G 246 [.ptr r 0,.str w] A (bo (decide (cur u=w))) (if cur u=w then A.upd r (some (rk s (adv u)))else A):=by
 refine Q4 l246 (fE rfl) ?_
 simp only[BH,QJ,seval]
 refine Q2 (k269 G hr hu hw) ?_
 by_cases h:cur u=w
 ·simp only[fA h,fC h,QJ,seval]
  refine Q2 (Tq G hr hu hs) ?_
  simp only[QJ,seval]
  exact Qx rfl (U2.refl _)
 ·simp only[fB h,fD h,QJ,seval]
  exact Qx rfl (U2.refl _)
theorem GK {A:Q3}{r:Nat}{s u:Bs}{α:Type}{enc:α→AV}(hr:A r=some (rk s u)):Qt Tryz.prog G 247 [.ptr r 0] A (Y5 r s A enc (.bad u)):=by
 rw[We]at hr
 refine Q4 l247 (fE rfl) ?_
 simp only[BG,hr,QJ,seval]
 refine JY (v:=.agg [i64 (s.length - u.length:Nat)]) rfl ?_
 simp only[XF,QJ,seval]
 exact⟨_,XC (fun k=>by by_cases e:k=r <;> simp [Q3.upd,e,hr]),rfl,rfl⟩
theorem Wa {A:Q3}{r:Nat}{s u w:Bs}(hr:A r=some (rk s u))(hu:At s u)(hw:Om w)(hs:s.length≤20000):
 Qt Tryz.prog G 216 [.ptr r 0,.str w] A (Y5 r s A (fun _=>ZK) (Ql w u)):=by
 refine Q4 l216 (fE rfl) ?_
 simp only[BZ,QJ,seval]
 refine Q2 (XU G hr hu hw hs) ?_
 by_cases h:cur u=w
 ·simp only[fA h,fC h,Ql,QQ,QJ,seval]
  exact VO (Wk.refl _) (by repeat first|exact QK.refl _ _|refine QK.at ?_ _|refine QK.set ?_ (by assumption) (by simp)) (Q0 ..)
 ·simp only[fB h,fD h,Ql,QJ,seval]
  exact OO (GK (enc:=fun(_:Unit)=>ZK) G hr) (.refl _ _)
theorem Tp {A:Q3}{r:Nat}{s u:Bs}(hr:A r=some (rk s u))(hu:At s u)(hs:s.length≤20000):
 Qt Tryz.prog G 217 [.ptr r 0] A (Y5 r s A .str (Za u)):=by
 have hr':=hr
 rw[We]at hr'
 refine Q4 l217 (fE rfl) ?_
 simp only[BY,QJ,seval]
 refine Q2 (To G hr hu) ?_
 simp only[hr',QJ,seval]
 have hbad:Za u=.bad u→∀{env l st},(Cx.of Tryz.prog G false [.tmp 2] (Y5 r s A .str (Za u))).call (.func (.func 247) [] []) [.ptr r 0] (some 17) l st env [] A:=fun e env l st=>by
  rw[e];exact OO (GK (enc:=fun(_:Unit)=>ZK) G hr) (.refl _ _)
 refine⟨fun h=> ?_,fun h=> ?_⟩
 ·refine Q2 (IA G (cur u) A (by have:=LY hu;omega)) ?_
  cases hn:Qe (cur u)with
  |true=>
   simp only[QJ,seval]
   refine Q2 (Tq G hr hu hs) ?_
   simp only[Za,hn,QJ,seval]
   exact VO (Wk.refl _) (by repeat first|exact QK.refl _ _|refine QK.at ?_ _|refine QK.set ?_ (by assumption) (by simp)) (Q0 ..)
  |false=>
   simp only[QJ,seval]
   exact hbad (by simp [Za,hn])
 ·have hn:Qe (cur u)=false:=by
   cases hn:Qe (cur u)with
   |false=>rfl
   |true=>exact absurd (Gs hn) h
  exact hbad (by simp [Za,hn])
end
section
variable (G:Nat→Option (List AV))
theorem CP (hG:Gl G){A:Q3}{r:Nat}{s u:Bs}{neg:Bool}(hr:A r=some (rk s u))(hu:At s u)(hs:s.length≤20000):
 Qt Tryz.prog G 294 [.ptr r 0,bo neg] A (Y5 r s A i64 (JW neg u)):=by
 have hr':=hr
 rw[We]at hr'
 refine Q4 l294 (fE rfl) ?_
 simp only[Bk,QJ,seval]
 refine Q2 (To G hr hu) ?_
 simp only[hr',QJ,seval]
 have hbad:JW neg u=.bad u→∀{env l st d},(Cx.of Tryz.prog G false [.tmp 4] (Y5 r s A i64 (JW neg u))).call (.func (.func 247) [] []) [.ptr r 0] d l st env [] A:=fun e env l st d=>by
  rw[e];exact OO (GK (enc:=fun(_:Unit)=>ZK) G hr) (.refl _ _)
 cases hn:JP u with
 |false=>
  exact⟨fun h=>absurd (WC.1 h) (by simp [hn]),fun _=>hbad (by simp [JW,hn])⟩
 |true=>
  refine⟨fun _=> ?_,fun h=>absurd (WC.2 hn) h⟩
  refine Qk (B5 hG (cur u) _ (by have:=LY hu;omega)) ?_
  rintro o A' ⟨⟨n,e,rfl,he⟩,rfl⟩
  obtain⟨c,r',rfl⟩:∃c r',u=c::r':=by
   cases u with
   |nil=>cases hn
   |cons c r'=>exact⟨c,r',rfl⟩
  obtain⟨t,ht⟩:=IS (c:=c) (r:=r')
  have hpn:JW neg (c::r')=if 2147483648<Vj (cur (c::r'))∨(1<(cur (c::r')).length∧(cur (c::r')).head?=some 48)∨(neg=true∧Vj (cur (c::r'))=0)then .bad (c::r')else .ok (if neg then -(Vj (cur (c::r')):Int)else Vj (cur (c::r'))) (adv (c::r')):=by
   simp only[JW,hn,if_true]
  have hd:=I1 (by rw[ht];simp) (IZ hn)
  generalize hD:Vj (cur (c::r'))=D at hpn hd
  rw[ht]at hd he hpn⊢
  rcases he with⟨rfl,he⟩|⟨rfl,he⟩
  ·have hn':D<9223372036854775808∧n=D:=by
    rcases hd with⟨h1,h2⟩|⟨h1,h2⟩
    ·rw[h2]at he;cases he;exact⟨h1,rfl⟩
    ·rw[h2]at he;cases he
   obtain⟨hD63,rfl⟩:=hn'
   have h48:((c.toNat:Int)=48)↔(c::t).head?=some 48:=by
    simp only[List.head?_cons,cA]
    constructor
    ·intro h;apply UInt8.toNat_inj.1;show c.toNat=48;omega
    ·rintro rfl;rfl
   simp only[←h48,cE]at hpn
   cases neg
   ·have hno:(2147483648<D∨(1<t.length+1∧(c.toNat:Int)=48))→JW false (c::r')=.bad (c::r'):=fun h1=>by rw[hpn,fC (by omega)]
    have hfin:¬(2147483648<D∨(1<t.length+1∧(c.toNat:Int)=48))→JW false (c::r')=.ok D (adv (c::r')):=fun h1=>by rw[hpn,fD (by simp;omega)];rfl
    simp only[QJ,seval]
    refine⟨fun h2=>hbad (hno (by omega)),fun h2=>⟨fun h3=>⟨fun h4=>hbad (hno (by omega)),fun h4=> ?_⟩,fun h3=> ?_⟩⟩
    all_goals
     rw[hfin (by omega)]
     refine Q2 (Tq G hr hu hs) ?_
     simp only[QJ,seval]
     exact VO (Wk.refl _) (by repeat first|exact QK.refl _ _|refine QK.at ?_ _|refine QK.set ?_ (by assumption) (by simp)) (Q0 ..)
   ·have hno:(2147483648<D∨(1<t.length+1∧(c.toNat:Int)=48)∨D=0)→JW true (c::r')=.bad (c::r'):=fun h1=>by rw[hpn,fC (by simp;omega)]
    have hfin:¬(2147483648<D∨(1<t.length+1∧(c.toNat:Int)=48)∨D=0)→JW true (c::r')=.ok (-D) (adv (c::r')):=fun h1=>by rw[hpn,fD (by simp;omega)];rfl
    have hw:D≤2147483648→IntKind.i64.wrap (0 - (D:Int))= -(D:Int):=fun h=>by rw[Qg (by omega) (by omega)];omega
    simp only[QJ,seval]
    refine⟨fun h2=>hbad (hno (by omega)),fun h2=>⟨fun h3=>⟨fun h4=>hbad (hno (by omega)),fun h4=>⟨fun h5=>hbad (hno (by omega)),fun h5=> ?_⟩⟩,fun h3=>⟨fun h5=>hbad (hno (by omega)),fun h5=> ?_⟩⟩⟩
    all_goals
     rw[hfin (by omega)]
     refine Q2 (Tq G hr hu hs) ?_
     simp only[hw (by omega),QJ,seval]
     exact VO (Wk.refl _) (by repeat first|exact QK.refl _ _|refine QK.at ?_ _|refine QK.set ?_ (by assumption) (by simp)) (Q0 ..)
  ·simp only[QJ,seval]
   refine hbad ?_
   have:9223372036854775808≤D:=by
    rcases hd with⟨h1,h2⟩|⟨h1,h2⟩
    ·exact absurd h2 (he _)
    ·exact h1
   rw[hpn,fC (.inl (by omega))]
theorem Zk {α β γ:Type}{R:Res α}{k:α→Bs→Res β}{m:β→Bs→Res γ}:(R.bind k).bind m=R.bind fun a u=>(k a u).bind m:=by cases R <;> rfl
theorem k218 {α:Type}{A:Q3}{r:Nat}{s u:Bs}{one:Bs→Res α}{f:Nat}{enc:α→AV}{fn:FuncId}{first cap:List AV}(hr:A r=some (rk s u))(hu:At s u)(hs:s.length≤20000)(hf:u.length<f)
 (h1:∀A' u',QK r A A'→A' r=some (rk s u')→At s u'→u'.length≤u.length→Qt Tryz.prog G fn (first++cap) A' (Y5 r s A' enc (one u')))(htk:Tk one)(hsz:∀a,(enc a).cells.length=1)(hone:∀a,(enc a).cells.all AV.one=true):
 Qt Tryz.prog G 218 [.ptr r 0,.func (.func fn) first cap] A (Y5 r s A (Qy 1 fun a=>(enc a).cells) (Uf one f u)):=by
 refine Q4 l218 (fE rfl) ?_
 simp only[BX,QJ,seval]
 refine Q2 (XU G hr hu (ZN (.inr (by decide))) hs) ?_
 by_cases hc:cur u=[41]
 ·simp only[fA hc,fC hc,Uf,QJ,seval]
  exact VO Jm (by repeat first|exact QK.refl _ _|refine QK.at ?_ _|refine QK.set ?_ (by assumption) (by simp)) (Q0 ..)
 simp only[fB hc,fD hc,Uf,ZV,Zk,QJ,seval]
 refine Z2 (by simpa using h1 A u (.refl _ _) hr hu (fG _)) (.refl _ _) fun x u1 hx=> ?_
 have b1:=htk _ _ _ _ hu hx
 simp only[QJ,seval]
 refine QY (cs:=(enc x).cells) (Jf _ _ (hsz x) (by decide)) fun t0 ht0=> ?_
 obtain⟨ht0r,ht00⟩:=Q9 ht0
 simp only[ZB,W2,Nat.one_ne_zero,QJ,seval]
 intro t ht
 obtain⟨ht1,ht⟩:=Q9 ht
 obtain⟨htr,hta⟩:=Q9 ht
 refine Qv (fun n env ds A'=>∃(l:List α) (u':Bs) (t:Nat),n=u'.length∧env 0=.ptr r 0∧env 1=.func (.func fn) first cap∧env 4=.slice 1 l.length (l.flatMap fun a=>(enc a).cells) (some t)∧ds=[]∧At s u'∧u'.length≤u.length∧
  l.length+u'.length≤s.length∧t≠r∧A t=none∧A' r=some (rk s u')∧A' t=some .tip∧QK r A A'∧∃f',u'.length<f'∧J9 [44] one f [x] u1=J9 [44] one f' l u') u1.length
  ⟨[x],u1,t,rfl,rfl,rfl,by simp [JH],rfl,b1.at',b1.beq.le,by have:=b1.lt;have:=hu.le;simp;omega,htr,hta,by simp [Q3.upd,htr.symm,ht0r.symm],by simp,(((QK.refl _ _).at _).set ht00 (by simp)).set hta (by simp),f,by have:=b1.lt;omega,rfl⟩ ?_
 rintro n env ds A' ⟨l,u',t,rfl,h0,h1',h4,rfl,hu',hle,hlen,htr,hta,hr',ht',hov,f',hf',hR⟩
 obtain⟨f',rfl⟩:∃m,f'=m+1:=⟨f' - 1,by omega⟩
 simp only[h0,h1',h4,QJ,seval]
 refine Q2 (XU G hr' hu' (ZN (.inr (by decide))) hs) ?_
 rw[hR]
 by_cases hc:cur u'=[44]
 ·have b2:=Beh.adv hu' hc (by decide)
  simp only[fA hc,fC hc,h0,h1',h4,J9,Zk,QJ,seval]
  refine Z2 (by simpa using h1 _ (adv u') (hov.at _) (Q0 ..) b2.at' (by have:=b2.lt;omega)) (hov.at _) fun y u2 hy=> ?_
  have b3:=htk _ _ _ _ b2.at' hy
  simp only[h4,QJ,seval]
  refine QY (cs:=(enc y).cells) (Jf _ _ (hsz y) (by decide)) fun t2 ht2=> ?_
  obtain⟨e1,ht2⟩:=Q9 ht2
  have e2:t2≠t:=(Q6 ht' ht2).symm
  have hl3:=b3.lt
  have hl2:=b2.lt
  simp only[h4,ZB,V9,QJ,seval]
  refine⟨by simp [Q3.upd,htr,e2.symm,ht'],by omega,hone y,fun t3 ht3=> ?_⟩
  obtain⟨e3,ht3⟩:=Q9 ht3
  obtain⟨e4,ht3⟩:=Q9 ht3
  refine⟨u2.length,by omega,l++[y],u2,t3,rfl,h0,h1',by simp,b3.at',by omega,by simp;omega,e4,hov.gone e4 ht3,?_,by simp,?_,f',by omega,by simp only[hy,Q7]⟩
  ·simp [Q3.upd,htr.symm,e1.symm,e4.symm]
  ·exact(((((hov.at _).tip e1 (by simpa[Q3.upd,e1]using ht2)).set hta (by simp))).set (hov.gone e4 ht3) (by simp))
 ·simp only[fB hc,fD hc,h0,h1',h4,J9,Q7,QJ,seval]
  refine Z2 (Wa G hr' hu' (ZN (.inr (by decide))) hs) hov fun _ u2 hy=> ?_
  simp only[h4,QJ,seval]
  exact VO Ym (hov.at _) (Q0 ..)
theorem k295 {α:Type}{A:Q3}{r:Nat}{s u:Bs}{one:Bs→Res α}{f:Nat}{enc:α→AV}{fn:FuncId}{first cap:List AV}(hr:A r=some (rk s u))(hu:At s u)(hs:s.length≤20000)(hf:u.length<f)
 (h1:∀A' u',QK r A A'→A' r=some (rk s u')→At s u'→u'.length≤u.length→Qt Tryz.prog G fn (first++cap) A' (Y5 r s A' enc (one u')))(htk:Tk one)(hsz:∀a,(enc a).cells.length=4)(hone:∀a,(enc a).cells.all AV.one=true):
 Qt Tryz.prog G 295 [.ptr r 0,.func (.func fn) first cap] A (Y5 r s A (Qy 4 fun a=>(enc a).cells) (Uf one f u)):=by
 refine Q4 l295 (fE rfl) ?_
 simp only[Bj,QJ,seval]
 refine Q2 (XU G hr hu (ZN (.inr (by decide))) hs) ?_
 by_cases hc:cur u=[41]
 ·simp only[fA hc,fC hc,Uf,QJ,seval]
  exact VO Jm (by repeat first|exact QK.refl _ _|refine QK.at ?_ _|refine QK.set ?_ (by assumption) (by simp)) (Q0 ..)
 simp only[fB hc,fD hc,Uf,ZV,Zk,QJ,seval]
 refine Z2 (by simpa using h1 A u (.refl _ _) hr hu (fG _)) (.refl _ _) fun x u1 hx=> ?_
 have b1:=htk _ _ _ _ hu hx
 simp only[QJ,seval]
 refine QY (cs:=(enc x).cells) (Jf _ _ (hsz x) (by decide)) fun t0 ht0=> ?_
 obtain⟨ht0r,ht00⟩:=Q9 ht0
 simp only[ZB,W2,Nat.one_ne_zero,QJ,seval]
 intro t ht
 obtain⟨ht1,ht⟩:=Q9 ht
 obtain⟨htr,hta⟩:=Q9 ht
 refine Qv (fun n env ds A'=>∃(l:List α) (u':Bs) (t:Nat),n=u'.length∧env 0=.ptr r 0∧env 1=.func (.func fn) first cap∧env 4=.slice 4 l.length (l.flatMap fun a=>(enc a).cells) (some t)∧ds=[]∧At s u'∧u'.length≤u.length∧
  l.length+u'.length≤s.length∧t≠r∧A t=none∧A' r=some (rk s u')∧A' t=some .tip∧QK r A A'∧∃f',u'.length<f'∧J9 [44] one f [x] u1=J9 [44] one f' l u') u1.length
  ⟨[x],u1,t,rfl,rfl,rfl,by simp [JH],rfl,b1.at',b1.beq.le,by have:=b1.lt;have:=hu.le;simp;omega,htr,hta,by simp [Q3.upd,htr.symm,ht0r.symm],by simp,(((QK.refl _ _).at _).set ht00 (by simp)).set hta (by simp),f,by have:=b1.lt;omega,rfl⟩ ?_
 rintro n env ds A' ⟨l,u',t,rfl,h0,h1',h4,rfl,hu',hle,hlen,htr,hta,hr',ht',hov,f',hf',hR⟩
 obtain⟨f',rfl⟩:∃m,f'=m+1:=⟨f' - 1,by omega⟩
 simp only[h0,h1',h4,QJ,seval]
 refine Q2 (XU G hr' hu' (ZN (.inr (by decide))) hs) ?_
 rw[hR]
 by_cases hc:cur u'=[44]
 ·have b2:=Beh.adv hu' hc (by decide)
  simp only[fA hc,fC hc,h0,h1',h4,J9,Zk,QJ,seval]
  refine Z2 (by simpa using h1 _ (adv u') (hov.at _) (Q0 ..) b2.at' (by have:=b2.lt;omega)) (hov.at _) fun y u2 hy=> ?_
  have b3:=htk _ _ _ _ b2.at' hy
  simp only[h4,QJ,seval]
  refine QY (cs:=(enc y).cells) (Jf _ _ (hsz y) (by decide)) fun t2 ht2=> ?_
  obtain⟨e1,ht2⟩:=Q9 ht2
  have e2:t2≠t:=(Q6 ht' ht2).symm
  have hl3:=b3.lt
  have hl2:=b2.lt
  simp only[h4,ZB,V9,QJ,seval]
  refine⟨by simp [Q3.upd,htr,e2.symm,ht'],by omega,hone y,fun t3 ht3=> ?_⟩
  obtain⟨e3,ht3⟩:=Q9 ht3
  obtain⟨e4,ht3⟩:=Q9 ht3
  refine⟨u2.length,by omega,l++[y],u2,t3,rfl,h0,h1',by simp,b3.at',by omega,by simp;omega,e4,hov.gone e4 ht3,?_,by simp,?_,f',by omega,by simp only[hy,Q7]⟩
  ·simp [Q3.upd,htr.symm,e1.symm,e4.symm]
  ·exact(((((hov.at _).tip e1 (by simpa[Q3.upd,e1]using ht2)).set hta (by simp))).set (hov.gone e4 ht3) (by simp))
 ·simp only[fB hc,fD hc,h0,h1',h4,J9,Q7,QJ,seval]
  refine Z2 (Wa G hr' hu' (ZN (.inr (by decide))) hs) hov fun _ u2 hy=> ?_
  simp only[h4,QJ,seval]
  exact VO Ym (hov.at _) (Q0 ..)
end
def Ok (l:List (Bs×Int)):List (AV×AV):=l.map fun p=>(.str p.1,i64 p.2)
theorem Ls:∀(l:List (Bs×Int)) (t:Bs),VN (.str t) (Ok l)=some ((l.lookup t).map i64)
 |[],t=>rfl
 |(a,k)::l,t=>by
  show(if t==a then some (some (i64 k))else VN (.str t) (Ok l))=_
  rw[Ls l t,List.lookup_cons]
  cases h:t==a <;> simp
def Z7 (A A':Q3):Prop:=∀k,A' k=A k∨A k=none∧∀es,A' k=some (.mp es)→∀j l e,A j≠some (.mit (some k) l e)
theorem Z7.refl (A:Q3):Z7 A A:=fun _=>.inl rfl
theorem Z7.over {A A':Q3}(h:Z7 A A')(r:Nat):QK r A A':=fun k _=>(h k).elim .inl fun h=>.inr ⟨h.1,fun es he j l e hj=>absurd hj (h.2 es he j l e)⟩
theorem Z7.keep {A A':Q3}(h:Z7 A A'){k:Nat}{o:AObj}(ho:A k=some o):A' k=some o:=by
 rcases h k with h1|h1
 ·rw[h1,ho]
 ·rw[h1.1]at ho;cases ho
theorem Z7.gone {A A':Q3}(h:Z7 A A'){k:Nat}(ho:A' k=none):A k=none:=by
 rcases h k with h1|h1
 ·rw[←h1,ho]
 ·exact h1.1
theorem Z7.set {A A':Q3}(h:Z7 A A'){t:Nat}(ht:A t=none){o:Option AObj}(ho:∀es,o≠some (.mp es)):Z7 A (A'.upd t o):=fun k=>by
 by_cases e:k=t
 ·subst e;rw[Q0];exact .inr ⟨ht,fun es he=>absurd he (ho es)⟩
 ·rw[Q5 e];exact h k
theorem Z7.map {A A':Q3}(h:Z7 A A'){t:Nat}(ht:A t=none)(hi:K7 A' t)(o:Option AObj):Z7 A (A'.upd t o):=fun k=>by
 by_cases e:k=t
 ·subst e;exact .inr ⟨ht,fun _ _ j l e hj=>hi j _ l e (h.keep hj) rfl⟩
 ·rw[Q5 e];exact h k
section
variable (G:Nat→Option (List AV))
def vR (A:Q3)(o:Out)(A':Q3):Prop:=∃ms:List AV,o=.ret (.agg ms)∧ms.length=6∧Z7 A A'∧ms[0]? =some (.raw (.map none))∧∀n,1≤n→n≤5→∃m,ms[n]? =some (.map m)∧A' m=some (.mp (Ok (ZH n)))
theorem CQ (A:Q3):Qt Tryz.prog G 265 [] A (vR A):=by
 refine Q4 l265 (fE rfl) ?_
 simp only[Bw,QJ,seval]
 intro c hc m1 h1 n1
 refine V5 n1 rfl ?_
 simp only[QJ,seval]
 intro m2 h2 n2
 refine V5 n2 rfl ?_
 simp only[QJ,seval]
 intro m3 h3 n3
 refine V5 n3 rfl ?_
 simp only[QJ,seval]
 refine V5 n3 rfl ?_
 simp only[QJ,seval]
 refine V5 n3 rfl ?_
 simp only[QJ,seval]
 refine V5 n3 rfl ?_
 simp only[QJ,seval]
 refine V5 n3 rfl ?_
 simp only[QJ,seval]
 refine V5 n3 rfl ?_
 simp only[QJ,seval]
 intro m4 h4 n4
 refine V5 n4 rfl ?_
 simp only[QJ,seval]
 refine V5 n4 rfl ?_
 simp only[QJ,seval]
 intro m5 h5 n5
 refine V5 n5 rfl ?_
 simp only[QJ,seval]
 refine V5 n5 rfl ?_
 simp only[QJ,seval]
 refine V5 n5 rfl ?_
 obtain⟨c1,a1⟩:=Q9 h1
 obtain⟨d2,h2⟩:=Q9 h2
 obtain⟨c2,a2⟩:=Q9 h2
 obtain⟨e3,h3⟩:=Q9 h3
 obtain⟨d3,h3⟩:=Q9 h3
 obtain⟨c3,a3⟩:=Q9 h3
 obtain⟨f4,h4⟩:=Q9 h4
 obtain⟨e4,h4⟩:=Q9 h4
 obtain⟨d4,h4⟩:=Q9 h4
 obtain⟨c4,a4⟩:=Q9 h4
 obtain⟨g5,h5⟩:=Q9 h5
 obtain⟨f5,h5⟩:=Q9 h5
 obtain⟨e5,h5⟩:=Q9 h5
 obtain⟨d5,h5⟩:=Q9 h5
 obtain⟨c5,a5⟩:=Q9 h5
 have hne:∀{a b:Nat} {A:Q3} {o:Option AObj},b≠a→(A.upd a o) b=A b:=fun h=>Q5 h
 simp only[hne c1.symm,hne c2.symm,hne c3.symm,hne c4.symm,hne c5.symm,ZR,seval]
 refine J0 (Wk.refl _) (U2.refl _) ⟨_,rfl,rfl,?_,rfl,?_⟩
 ·exact((((((Z7.refl A).set hc (by simp)).map a1 n1 _).map a2 n2 _).map a3 n3 _).map a4 n4 _).map a5 n5 _ |>.set hc (by simp)
 ·intro n hn1 hn5
  have:n=1∨n=2∨n=3∨n=4∨n=5:=by omega
  rcases this with rfl|rfl|rfl|rfl|rfl
  ·exact⟨m1,rfl,by simp only[hne c1,hne d5.symm,hne d4.symm,hne d3.symm,hne d2.symm,Q0];rfl⟩
  ·exact⟨m2,rfl,by simp only[hne c2,hne e5.symm,hne e4.symm,hne e3.symm,Q0];rfl⟩
  ·exact⟨m3,rfl,by simp only[hne c3,hne f5.symm,hne f4.symm,Q0];rfl⟩
  ·exact⟨m4,rfl,by simp only[hne c4,hne g5.symm,Q0];rfl⟩
  ·exact⟨m5,rfl,by simp only[hne c5,Q0];rfl⟩
end
end Go.Proofs.YtcbjbgaefighcaaGreatDoor
