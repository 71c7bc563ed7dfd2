/- Part 12 of the proof. -/
import Derived.Test.YtcbjbgaefighcaaGreatDoorT0
import Derived.Test.YtcbjbgaefighcaaGreatDoorT7
import Derived.Test.YtcbjbgaefighcaaGreatDoorT8
import Derived.Test.YtcbjbgaefighcaaGreatDoorT11
import Derived.Lib.Bytealg
set_option linter.all false
namespace Go.Proofs.YtcbjbgaefighcaaGreatDoor
open Go Go.Ax Go.Proofs
def W7 (c:UInt8):Bool:=c==32||c==9||c==13||c==10
def QG:Bool→List UInt8→Nat
 |_,[]=>0
 |true,c::r=>if c==10 then 1+QG false r else 1+QG true r
 |false,c::r=>if c==47&&r.head?==some 47 then 1+QG true r else if W7 c then 1+QG false r else 0
def Yx:List (List UInt8):=[[124,124],[38,38],[60,61],[62,61],[61,61],[33,61],[45,62],[46,46]]
def Z4 (s:List UInt8):Nat:=match s with
 |[]=>0
 |c::r=>if Y1 c then(s.takeWhile JI).length else if ZX c then(s.takeWhile ZX).length else if s.take 2∈Yx then 2 else 1
theorem YD:∀(t:List UInt8) (b:Bool),QG b t≤t.length
 |[],b=>by cases b <;> simp [QG]
 |c::r,true=>by
  have h1:=YD r true
  have h2:=YD r false
  simp only[QG,cE]
  split <;> omega
 |c::r,false=>by
  have h1:=YD r true
  have h2:=YD r false
  simp only[QG,cE]
  split
  ·omega
  ·split <;> omega
theorem KL:∀(t:List UInt8),Lib.indexByte t 10<0→QG true t=t.length:=by
 intro t
 induction t with
 |nil=>intro _;rfl
 |cons c r ih=>
  intro h
  have hge:=Lib.indexByte_ge r 10
  simp only[Lib.indexByte]at h
  split at h
  ·omega
  ·rename_i hc
   have:Lib.indexByte r 10<0:=by
    split at h
    ·rename_i h1;rw[beq_iff_eq]at h1;omega
    ·rename_i h1;simp only[beq_iff_eq]at h1;omega
   simp only[QG,hc,cB,if_false,ih this,cE]
   omega
theorem kC (r:List UInt8):QG false (10::r)=1+QG false r:=by
 simp [QG,W7]
theorem KK:∀(t:List UInt8) (k:Nat),Lib.indexByte t 10=k→QG true t=k+QG false (t.drop k):=by
 intro t
 induction t with
 |nil=>intro k h;simp only[Lib.indexByte]at h;omega
 |cons c r ih=>
  intro k h
  have hge:=Lib.indexByte_ge r 10
  simp only[Lib.indexByte]at h
  split at h
  ·rename_i hc
   have hk:k=0:=by omega
   subst hk
   rw[beq_iff_eq.1 hc]
   simp [QG,W7]
  ·rename_i hc
   split at h
   ·omega
   ·rename_i h1
    obtain⟨j,rfl⟩:∃j,k=j+1:=⟨k - 1,by simp only[beq_iff_eq]at h1;omega⟩
    have:=ih j (by omega)
    simp only[QG,hc,cB,if_false,this,List.drop_succ_cons]
    omega
theorem Hh (x:UInt8)(t:List UInt8)(c:UInt8)(h:(x==c)=false):Lib.indexByte (x::t) c≠0:=by
 have:=Lib.indexByte_ge t c
 simp only[Lib.indexByte,h,cB,if_false]
 split
 ·omega
 ·rename_i h1
  simp only[beq_iff_eq]at h1
  omega
theorem O9 {t:List UInt8}(h:[47,47].isPrefixOf t=true):QG false t=QG true t∧Lib.indexByte t 10≠0:=by
 match t,h with
 |[],h=>simp [List.isPrefixOf]at h
 |[c],h=>simp [List.isPrefixOf]at h
 |c::d::r,h=>
  simp only[List.isPrefixOf,cD,beq_iff_eq]at h
  obtain⟨rfl,rfl,_⟩:=h
  exact⟨by simp [QG],Hh _ _ _ (by decide)⟩
theorem XQ (c:UInt8):(Lib.indexByte [32,9,13,10] c<0)↔W7 c=false:=by
 by_cases h1:c=32
 ·subst h1;decide
 by_cases h2:c=9
 ·subst h2;decide
 by_cases h3:c=13
 ·subst h3;decide
 by_cases h4:c=10
 ·subst h4;decide
 have e1:((32:UInt8)==c)=false:=by simpa using fun e=>h1 e.symm
 have e2:((9:UInt8)==c)=false:=by simpa using fun e=>h2 e.symm
 have e3:((13:UInt8)==c)=false:=by simpa using fun e=>h3 e.symm
 have e4:((10:UInt8)==c)=false:=by simpa using fun e=>h4 e.symm
 have f:W7 c=false:=by simp [W7,h1,h2,h3,h4]
 simp [Lib.indexByte,e1,e2,e3,e4,f]
theorem Lx {t r:List UInt8}{c:UInt8}(ht:t=c::r)(h:[47,47].isPrefixOf t=false):QG false t=if W7 c then 1+QG false r else 0:=by
 subst ht
 have:(c==47&&r.head?==some 47)=false:=by
  cases r with
  |nil=>simp
  |cons d r=>
   simp only[List.isPrefixOf,dB]at h
   rw[Bool.beq_comm (a:=c),List.head?_cons]
   have e:(some d==some (47:UInt8))=(47==d):=by rw[Bool.beq_comm];rfl
   rw[e];exact h
 simp only[QG,this,cB,if_false]
theorem H3 (s:List UInt8):Z4 s≤s.length:=by
 unfold Z4
 split
 ·simp
 ·rename_i c r
  have h1:((c::r).takeWhile JI).length≤(c::r).length:=(List.takeWhile_sublist _).length_le
  have h2:((c::r).takeWhile ZX).length≤(c::r).length:=(List.takeWhile_sublist _).length_le
  split
  ·exact h1
  ·split
   ·exact h2
   ·split
    ·rename_i hp
     cases r with
     |nil=>simp [Yx]at hp
     |cons d r=>simp
    ·simp
theorem Rn (c d:UInt8):((c.toNat:Int)==(d.toNat:Int))=(c==d):=by
 cases h:(c==d)with
 |true=>rw[beq_iff_eq.1 h];simp
 |false=>
  have hne:c≠d:=by simpa using h
  have:c.toNat≠d.toNat:=fun e=>hne (UInt8.toNat_inj.1 e)
  simp only[beq_eq_false_iff_ne,ne_eq]
  omega
theorem Up {f:UInt8→Bool}:∀{t:List UInt8} {k:Nat},k≤t.length→(t.take k).all f=true→(∀c,t[k]? =some c→f c=false)→(t.takeWhile f).length=k
 |[],k,h,_,_=>by simp at h;simp [h]
 |c::t,0,_,_,h3=>by
  have:=h3 c (by simp)
  simp [List.takeWhile_cons,this]
 |c::t,k+1,h1,h2,h3=>by
  simp only[List.take_succ_cons,dU,cD]at h2
  simp only[List.takeWhile_cons,h2.1,if_true,cE,Nat.add_right_cancel_iff]
  exact Up (by simpa using h1) h2.2 (fun d hd=>h3 d (by simpa using hd))
theorem XR {f:UInt8→Bool}{t:List UInt8}{k:Nat}{c:UInt8}(h:(t.take k).all f=true)(hc:t[k]? =some c)(hf:f c=true):(t.take (k+1)).all f=true:=by
 obtain⟨hlt,rfl⟩:=fO.1 hc
 rw[←List.take_append_getElem hlt,fK,h]
 simp [hf]
def Zz (s:List UInt8)(a b:Nat)(l:Bool):AObj:=.cells [.str s,i64 a,i64 b,bo l]
section
variable (G:Nat→Option (List AV))
theorem f83 {A:Q3}{r:Nat}{s:List UInt8}{a b:Nat}{l:Bool}(hr:A r=some (Zz s a b l))(hab:a≤b)(hb:b≤s.length):Qu Tryz.prog G 83 [.ptr r 0] A (.str ((s.drop a).take (b - a))) A:=by
 refine Q4 l83 (fE rfl) ?_
 simp only[C83,hr,Zz,ZR,seval]
 refine⟨⟨by omega,by omega,by omega⟩,?_⟩
 exact Qx (by simp) (U2.refl _)
theorem f23 {A:Q3}{r:Nat}{s:List UInt8}{a b:Nat}{l:Bool}(hr:A r=some (Zz s a b l))(hb:b≤s.length)(hs:s.length<2^62)(p:Nat)(hp:p=b+QG false (s.drop b)):
 Qu Tryz.prog G 23 [.ptr r 0] A ZK (A.upd r (some (Zz s p (p+Z4 (s.drop p)) l))):=by
 refine Q4 l23 (fE rfl) ?_
 unfold C23
 refine Qd (fun env ds A'=>env 0=.ptr r 0∧env 2=i64 b∧ds=[]∧A'=A) ?_ ?_
 ·simp only[hr,Zz,ZR,seval]
 rintro env ds A' ⟨h0,h2,rfl,rfl⟩
 refine Qd (fun env ds A''=>env 0=.ptr r 0∧env 2=i64 p∧ds=[]∧A''=A') ?_ ?_
 ·rw[Xh]
  refine Qv (fun n env ds A1=>∃i:Nat,b≤i∧i≤s.length∧n=s.length - i∧env 0=.ptr r 0∧env 2=i64 i∧ds=[]∧A1=A'∧p=i+QG false (s.drop i)) (s.length - b) ⟨b,fG _,hb,rfl,h0,h2,rfl,rfl,hp⟩ ?_
  rintro n env ds A1 ⟨i,hbi,his,rfl,h0,h2,rfl,rfl,hpi⟩
  simp only[hr,Zz,h0,h2,ZR,seval]
  refine⟨fun h=> ?_,fun h=> ?_⟩
  ·have hlt:i<s.length:=by omega
   refine⟨⟨by omega,by omega,by omega⟩,?_⟩
   have e1:List.take ((s.length:Int).toNat - (i:Int).toNat) (List.drop (i:Int).toNat s)=s.drop i:=by
    rw[dX (by simp)];simp
   simp only[e1,ZR,seval]
   refine Q2 (f75 G (s.drop i) [47,47] A1) ?_
   cases hpre:[47,47].isPrefixOf (s.drop i)with
   |true=>
    simp only[hr,Zz,h0,h2,ZR,seval]
    refine⟨⟨by omega,by omega,by omega⟩,?_⟩
    simp only[e1,ZR,seval]
    refine Q2 (Sb G (s.drop i) 10 A1) ?_
    simp only[hr,Zz,h0,h2,ZR,seval]
    obtain⟨hb1,hb2⟩:=O9 hpre
    have hble:=YD (s.drop i) true
    simp only[dW]at hble
    refine⟨fun hn=> ?_,fun hn=> ?_⟩
    ·have hx:=KL _ hn
     simp only[dW]at hx
     refine⟨0,by omega,s.length,hb,fG _,by omega,?_⟩
     rw[Qg (n:=(s.length:Int) - i) (by omega) (by omega),Qg (by omega) (by omega)]
     have e2:(i:Int)+((s.length:Int) - i)=s.length:=by omega
     simp only[e2,true_and,List.drop_length,QG,fS]
     omega
    ·obtain⟨k,hk⟩:∃k:Nat,Lib.indexByte (s.drop i) 10=k:=⟨(Lib.indexByte (s.drop i) 10).toNat,by omega⟩
     have hx:=KK _ k hk
     rw[lC]at hx
     rw[hk]at hb2
     refine⟨s.length - (i+k),by omega,i+k,by omega,by omega,rfl,?_⟩
     rw[hk,Qg (by omega) (by omega)]
     simp only[Int.natCast_add,true_and]
     omega
   |false=>
    simp only[hr,Zz,h0,h2,ZR,seval]
    refine JY (v:=u8 s[i]) (by simp [hlt]) ?_
    simp only[hr,Zz,h0,h2,ZR,seval]
    refine Q2 (Sb G [32,9,13,10] s[i] A1) ?_
    simp only[hr,Zz,h0,h2,ZR,seval]
    have hone:=Lx (dP hlt) hpre
    refine⟨fun hn=> ?_,fun hn=> ?_⟩
    ·rw[(XQ _).1 hn]at hone
     simp only[cB,if_false]at hone
     simp only[hpi,hone,fS,true_and]
    ·have hw:W7 s[i]=true:=by
      cases hw:W7 s[i]with
      |true=>rfl
      |false=>exact absurd ((XQ _).2 hw) hn
     rw[hw,fC rfl]at hone
     refine⟨s.length - (i+1),by omega,i+1,by omega,by omega,rfl,?_⟩
     rw[Qg (by omega) (by omega)]
     simp only[Int.natCast_add,Int.cast_ofNat_Int,true_and]
     omega
  ·have:i=s.length:=by omega
   subst this
   simp only[List.drop_length,QG,fS]at hpi
   simp [hpi]
 rintro env ds A'' ⟨h0,h2,rfl,rfl⟩
 refine Qd (fun env ds A'=>env 0=.ptr r 0∧env 2=i64 p∧ds=[]∧A'=A''.upd r (some (Zz s p b l))) ?_ ?_
 ·simp only[hr,h0,h2,Zz,ZR,seval]
 rintro env ds A' ⟨h0,h2,rfl,rfl⟩
 refine Qd (fun env ds A'=>env 0=.ptr r 0∧env 2=i64 (p+Z4 (s.drop p))∧ds=[]∧(A'=A''.upd r (some (Zz s p b l))∨∃t,A''.upd r (some (Zz s p b l)) t=none∧A'=(A''.upd r (some (Zz s p b l))).upd t (some .tip))) ?_ ?_
 ·have hr':(A''.upd r (some (Zz s p b l))) r=some (Zz s p b l):=Q0 _ _ _
  generalize A''.upd r (some (Zz s p b l))=B at*
  have hps:p≤s.length:=by
   have:=YD (s.drop b) false
   simp only[dW]at this
   omega
  simp only[hr',Zz,h0,h2,ZR,seval]
  refine⟨fun h=> ?_,fun h=> ?_⟩
  ·have hlt:p<s.length:=by omega
   refine JY (v:=u8 s[p]) (by simp [hlt]) ?_
   simp only[hr',Zz,h0,h2,ZR,seval]
   refine Q2 (f77 G s[p] B) ?_
   have hdp:s.drop p=s[p]::s.drop (p+1):=dP hlt
   cases hL:Y1 s[p]with
   |true=>
    simp only[ZR,seval]
    refine Qv (fun n env ds A1=>∃i:Nat,p≤i∧i≤s.length∧n=s.length - i∧env 0=.ptr r 0∧env 2=i64 i∧ds=[]∧A1=B∧((s.drop p).take (i - p)).all JI=true) (s.length - p)
     ⟨p,fG _,hps,rfl,by simp [JH,h0],by simp [JH,h2],rfl,rfl,by simp⟩ ?_
    rintro n env ds A1 ⟨i,hpi,his,rfl,h0,h2,rfl,rfl,hall⟩
    have htok:(∀c,(s.drop p)[i - p]? =some c→JI c=false)→Z4 (s.drop p)=i - p:=fun hst=>by
     have:=Up (by simp;omega) hall hst
     simp only[Z4,hdp,hL,if_true]
     rw[←hdp];exact this
    simp only[hr',Zz,h0,h2,ZR,seval]
    refine⟨fun h=> ?_,fun h=> ?_⟩
    ·have hlt':i<s.length:=by omega
     refine JY (v:=u8 s[i]) (by simp [hlt']) ?_
     simp only[hr',Zz,h0,h2,ZR,seval]
     refine Q2 (f77 G s[i] A1) ?_
     have hgi:(s.drop p)[i - p]? =some s[i]:=by
      rw[List.getElem?_drop,show p+(i - p)=i from by omega];simp [hlt']
     have hgo:JI s[i]=true→∃m,m<s.length - i∧∃i_1:Nat,p≤i_1∧i_1≤s.length∧m=s.length - i_1∧i64 ((i:Int)+1)=i64 i_1∧(List.take (i_1 - p) (List.drop p s)).all JI=true:=fun hc=>by
      refine⟨s.length - (i+1),by omega,i+1,by omega,by omega,rfl,by simp,?_⟩
      rw[show i+1 - p=(i - p)+1 from by omega]
      exact XR hall hgi hc
     have hin:JI s[i]=false→i64 i=i64 (p+Z4 (s.drop p)):=fun hc=>by
      rw[htok (fun c hc'=>by rw[hgi]at hc';simp only[cA]at hc';rw[←hc'];exact hc)]
      simp only[AV.raw.injEq,Value.int.injEq,true_and]
      omega
     cases hl:Y1 s[i]with
     |true=>
      simp only[hr',Zz,h0,h2,ZR,seval]
      rw[Qg (by omega) (by omega)]
      exact hgo (by simp [JI,hl])
     |false=>
      simp only[hr',Zz,h0,h2,ZR,seval]
      refine JY (v:=u8 s[i]) (by simp [hlt']) ?_
      simp only[hr',Zz,h0,h2,ZR,seval]
      refine Q2 (Sa G s[i] A1) ?_
      cases hd:ZX s[i]with
      |true=>
       simp only[hr',Zz,h0,h2,ZR,seval]
       rw[Qg (by omega) (by omega)]
       exact hgo (by simp [JI,hd])
      |false=>
       simp only[hr',Zz,h0,h2,ZR,seval]
       refine JY (v:=u8 s[i]) (by simp [hlt']) ?_
       simp only[hr',Zz,h0,h2,ZR,seval]
       have h95:((s[i].toNat:Int)==95)=(s[i]==95):=Rn s[i] 95
       refine⟨fun hc=> ?_,fun hc=> ?_⟩ <;> have hc:_=_:=h95.symm.trans (by first|exact beq_iff_eq.2 hc|exact beq_false_of_ne hc)
       ·rw[Qg (by omega) (by omega)]
        exact hgo (by simp [JI,hc])
       ·simp only[hin (by simp [JI,hl,hd,hc]),true_and,true_or,and_true]
    ·have:i=s.length:=by omega
     rw[htok (fun c hc=>by rw[fL (by simp;omega)]at hc;cases hc)]
     simp [this]
     omega
   |false=>
    simp only[ZR,seval]
    refine Q2 (Sa G s[p] B) ?_
    cases hD:ZX s[p]with
    |true=>
     simp only[ZR,seval]
     refine Qv (fun n env ds A1=>∃i:Nat,p≤i∧i≤s.length∧n=s.length - i∧env 0=.ptr r 0∧env 2=i64 i∧ds=[]∧A1=B∧((s.drop p).take (i - p)).all ZX=true) (s.length - p)
      ⟨p,fG _,hps,rfl,by simp [JH,h0],by simp [JH,h2],rfl,rfl,by simp⟩ ?_
     rintro n env ds A1 ⟨i,hpi,his,rfl,h0,h2,rfl,rfl,hall⟩
     have htok:(∀c,(s.drop p)[i - p]? =some c→ZX c=false)→Z4 (s.drop p)=i - p:=fun hst=>by
      have:=Up (by simp;omega) hall hst
      simp only[Z4,hdp,hL,hD,if_true,cB,if_false]
      rw[←hdp];exact this
     simp only[hr',Zz,h0,h2,ZR,seval]
     refine⟨fun h=> ?_,fun h=> ?_⟩
     ·have hlt':i<s.length:=by omega
      refine JY (v:=u8 s[i]) (by simp [hlt']) ?_
      simp only[hr',Zz,h0,h2,ZR,seval]
      refine Q2 (Sa G s[i] A1) ?_
      have hgi:(s.drop p)[i - p]? =some s[i]:=by
       rw[List.getElem?_drop,show p+(i - p)=i from by omega];simp [hlt']
      cases hd:ZX s[i]with
      |true=>
       simp only[hr',Zz,h0,h2,ZR,seval]
       rw[Qg (by omega) (by omega)]
       refine⟨s.length - (i+1),by omega,i+1,by omega,by omega,rfl,by simp,?_⟩
       rw[show i+1 - p=(i - p)+1 from by omega]
       exact XR hall hgi hd
      |false=>
       simp only[hr',Zz,h0,h2,ZR,seval]
       rw[htok (fun c hc'=>by rw[hgi]at hc';simp only[cA]at hc';rw[←hc'];exact hd)]
       simp only[AV.raw.injEq,Value.int.injEq,true_and,and_true,true_or]
       omega
     ·have:i=s.length:=by omega
      rw[htok (fun c hc=>by rw[fL (by simp;omega)]at hc;cases hc)]
      simp [this]
      omega
    |false=>
     have htok:Z4 (s.drop p)=if(s.drop p).take 2∈Yx then 2 else 1:=by
      simp only[Z4,hdp,hL,hD,cB,if_false]
     simp only[hr',Zz,h0,h2,ZR,seval]
     refine⟨fun h1=> ?_,fun h1=> ?_⟩
     ·rw[Qg (by omega) (by omega)]at h1
      refine QY (cs:=Yx.map .str) (by kernel_rfl) fun t ht=> ?_
      have hne:r≠t:=fun e=>by subst e;rw[hr']at ht;cases ht
      simp only[Q5 hne,hr',Zz,h0,h2,ZR,seval]
      rw[Qg (n:=(p:Int)+2) (by omega) (by omega)]
      refine⟨⟨by omega,by omega,by omega⟩,?_⟩
      have e1:List.take (((p:Int)+2).toNat - (p:Int).toNat) (List.drop (p:Int).toNat s)=(s.drop p).take 2:=by
       rw[show((p:Int)+2).toNat - (p:Int).toNat=2 from by omega];simp
      simp only[e1,ZR,seval]
      refine Qk (Qt.wk (.cons Ym (.cons (Wk.refl _) .nil)) (f79 G Yx ((s.drop p).take 2) (B.upd t (some .tip)) (by decide))) ?_
      rintro o A' ⟨rfl,rfl⟩
      by_cases hm:(s.drop p).take 2∈Yx
      ·simp only[fA hm]
       simp only[hr',Zz,h0,h2,ZR,seval]
       rw[Qg (by omega) (by omega),htok,fC hm]
       simp only[Int.cast_ofNat_Int,true_and]
       exact .inr ⟨t,ht,rfl⟩
      ·simp only[fB hm]
       simp only[hr',Zz,h0,h2,ZR,seval]
       rw[Qg (by omega) (by omega),htok,fD hm]
       simp only[Int.cast_ofNat_Int,true_and]
       exact .inr ⟨t,ht,rfl⟩
     ·rw[Qg (by omega) (by omega)]at h1
      have hm:(s.drop p).take 2∉Yx:=fun hm=>by
       have hl1:((s.drop p).take 2).length≤1:=by simp;omega
       have hl2:∀x∈Yx,x.length=2:=by decide
       have:=hl2 _ hm
       omega
      rw[Qg (by omega) (by omega),htok,fD hm]
      simp
  ·have:p=s.length:=by omega
   simp [this,Z4]
 rintro env ds A' ⟨h0,h2,rfl,rfl|⟨t,ht,rfl⟩⟩
 ·simp only[Q0,h0,h2,Zz,ZR,seval]
  exact Qx rfl (U2.refl _)
 ·have hne:r≠t:=fun e=>by subst e;simp at ht
  simp only[Q0,Q5 hne,h0,h2,Zz,ZR,seval]
  have ht':A'' t=none:=by rw[Q5 (Ne.symm hne)]at ht;exact ht
  have hcomm:∀X Y:Option AObj,((A''.upd r X).upd t (some .tip)).upd r Y=(A''.upd r Y).upd t (some .tip):=fun X Y=>by
   funext k
   simp only[Q3.upd]
   by_cases h1:k=r <;> by_cases h2:k=t <;> simp_all
  rw[hcomm]
  exact Qx rfl (LI (by rw[Q5 (Ne.symm hne)];exact ht') (by simp))
end
def cur (u:Bs):Bs:=u.take (Z4 u)
def skip (u:Bs):Bs:=u.drop (QG false u)
def adv (u:Bs):Bs:=skip (u.drop (Z4 u))
inductive Res (α:Type)where
 |ok (a:α) (u:Bs)
 |bad (u:Bs)
def Res.bind {α β:Type}:Res α→(α→Bs→Res β)→Res β
 | .ok a u,k=>k a u
 | .bad u,_=>.bad u
@[simp] theorem Q7 {α β:Type} (a:α) (u:Bs) (k:α→Bs→Res β):(Res.ok a u).bind k=k a u:=rfl
@[simp] theorem OY {α β:Type} (u:Bs) (k:α→Bs→Res β):(Res.bad u:Res α).bind k=.bad u:=rfl
def Ql (w:Bs)(u:Bs):Res Unit:=if cur u=w then .ok () (adv u)else .bad u
def Za (u:Bs):Res Bs:=if Qe (cur u)then .ok (cur u) (adv u)else .bad u
def Vj (l:Bs):Nat:=l.foldl (fun n c=>10*n+(c.toNat - 48)) 0
def JP (u:Bs):Bool:=match u with
 |[]=>false
 |c::_=>ZX c
def JW (neg:Bool)(u:Bs):Res Int:=
 if JP u then
  if 2147483648<Vj (cur u)∨(1<(cur u).length∧(cur u).head?=some 48)∨(neg=true∧Vj (cur u)=0)then .bad u
  else .ok (if neg then -(Vj (cur u):Int)else Vj (cur u)) (adv u)
 else .bad u
def YI:Bs:=[45]
def JK (u:Bs):Res Int:=if cur u=YI then JW true (adv u)else JW false u
def ZH:Nat→List (Bs×Int)
 |1=>[([124,124],17)]
 |2=>[([38,38],16)]
 |3=>[([60],10),([60,61],11),([61,61],12),([33,61],13),([62,61],14),([62],15)]
 |4=>[([43],5),([45],6)]
 |5=>[([42],7),([47],8),([37],9)]
 |_=>[]
def JE (n:Nat)(t:Bs):Option Int:=(ZH n).lookup t
def J9 {α:Type}(sep:Bs)(one:Bs→Res α):Nat→List α→Bs→Res (List α)
 |0,_,u=>.bad u
 |f+1,l,u=>if cur u=sep then(one (adv u)).bind fun x u1=>J9 sep one f (l++[x]) u1 else .ok l u
def ZV {α:Type}(sep:Bs)(one:Bs→Res α)(f:Nat)(u:Bs):Res (List α):=(one u).bind fun x u1=>J9 sep one f [x] u1
def Uf {α:Type}(one:Bs→Res α)(f:Nat)(u:Bs):Res (List α):=
 if cur u=[41]then .ok [] (adv u)else(ZV [44] one f u).bind fun l u1=>(Ql [41] u1).bind fun _ u2=>.ok l u2
def ZE {α:Type}(one:Bs→Res α):Nat→List α→Bs→Res (List α)
 |0,_,u=>.bad u
 |f+1,l,u=>if cur u=[125]then .ok l (adv u)else(one u).bind fun s u1=>ZE one f (l++[s]) u1
mutual
def Z0:Nat→Bs→Res Exp
 |0,u=>.bad u
 |f+1,u=>(JA f 1 u).bind fun x u1=>if cur u1=[63]then
  (Z0 f (adv u1)).bind fun a u2=>(Ql [58] u2).bind fun _ u3=>(Z0 f u3).bind fun b u4=>.ok (.mk 18 [] 0 [x,a,b]) u4
  else .ok x u1
def JA:Nat→Nat→Bs→Res Exp
 |0,_,u=>.bad u
 |f+1,n,u=>if n>5 then Zv f u else(JA f (n+1) u).bind fun x u1=>ZU f n x u1
def ZU:Nat→Nat→Exp→Bs→Res Exp
 |0,_,_,u=>.bad u
 |f+1,n,x,u=>match JE n (cur u)with
  |none=>.ok x u
  |some k=>(JA f (n+1) (adv u)).bind fun y u1=>if n=3 then .ok (.mk k [] 0 [x,y]) u1 else ZU f n (.mk k [] 0 [x,y]) u1
def Zv:Nat→Bs→Res Exp
 |0,u=>.bad u
 |f+1,u=>if cur u=[33]then(Zv f (adv u)).bind fun x u1=>.ok (.mk 4 [] 0 [x]) u1
  else if cur u=YI then
   if JP (adv u)then(JW true (adv u)).bind fun n u1=>.ok (.mk 1 [] n []) u1
   else(Zv f (adv u)).bind fun x u1=>.ok (.mk 3 [] 0 [x]) u1
  else JX f u
def JX:Nat→Bs→Res Exp
 |0,u=>.bad u
 |f+1,u=>if JP u then(JW false u).bind fun n u1=>.ok (.mk 1 [] n []) u1
  else if cur u=[40]then(Z0 f (adv u)).bind fun x u1=>(Ql [41] u1).bind fun _ u2=>.ok x u2
  else(Za u).bind fun s u1=>if cur u1=[40]then(Uf (fun u=>Z0 f u) f (adv u1)).bind fun l u2=>.ok (.mk 19 s 0 l) u2 else .ok (.mk 2 s 0 []) u1
end
def JM:Bs:=[105,102]
def YH:Bs:=[119,104,105,108,101]
def VM:Bs:=[101,108,115,101]
def VV:Bs:=[114,101,116,117,114,110]
def VE:Bs:=[118,97,114]
def VL:Bs:=[102,117,110,99]
mutual
def ZF:Nat→Bs→Res (List Stmt)
 |0,u=>.bad u
 |f+1,u=>(Ql [123] u).bind fun _ u1=>ZE (fun u=>ZL f u) f [] u1
def ZL:Nat→Bs→Res Stmt
 |0,u=>.bad u
 |f+1,u=>
  if cur u=JM then(Ql [40] (adv u)).bind fun _ u1=>(Z0 f u1).bind fun x u2=>(Ql [41] u2).bind fun _ u3=>(ZF f u3).bind fun b u4=>
   if cur u4=VM then(ZF f (adv u4)).bind fun e u5=>.ok (.mk 3 [] x b e) u5 else .ok (.mk 3 [] x b []) u4
  else if cur u=YH then(Ql [40] (adv u)).bind fun _ u1=>(Z0 f u1).bind fun x u2=>(Ql [41] u2).bind fun _ u3=>(ZF f u3).bind fun b u4=>.ok (.mk 4 [] x b []) u4
  else if cur u=VV then(Z0 f (adv u)).bind fun x u1=>(Ql [59] u1).bind fun _ u2=>.ok (.mk 5 [] x [] []) u2
  else if cur u=VE then(Za (adv u)).bind fun n u1=>(Ql [61] u1).bind fun _ u2=>(Z0 f u2).bind fun x u3=>(Ql [59] u3).bind fun _ u4=>.ok (.mk 1 n x [] []) u4
  else(Za u).bind fun n u1=>(Ql [61] u1).bind fun _ u2=>(Z0 f u2).bind fun x u3=>(Ql [59] u3).bind fun _ u4=>.ok (.mk 2 n x [] []) u4
end
def V4 (f:Nat)(u:Bs):Res Func:=
 (Ql VL u).bind fun _ u1=>(Za u1).bind fun n u2=>(Ql [40] u2).bind fun _ u3=>(Uf Za f u3).bind fun ps u4=>(ZF f u4).bind fun b u5=>.ok ⟨n,ps,b⟩ u5
def UI:Bs:=[109,111,100,101,108]
def Kw:Bs:=[99,108,111,99,107]
def M2:Bs:=[105,110]
def J7:Bs:=[99,104,97,110]
def Jr:Bs:=[98,114,111,97,100,99,97,115,116]
def Zq:Bs:=[117,114,103,101,110,116]
def YT:Bs:=[99,111,109,109,105,116,116,101,100]
def ZQ:Bs:=[112,114,111,99,101,115,115]
def V1:Bs:=[105,110,105,116]
def JD:Bs:=[108,111,99]
def Ua:Bs:=[105,110,118]
def YF:Bs:=[114,97,116,101]
def JF:Bs:=[101,100,103,101]
def Yv:Bs:=[119,104,101,110]
def Y8:Bs:=[115,121,110,99]
def VA:Bs:=[100,111]
def Jb:Bs:=[114,101,115,101,116]
def Jz:Bs:=[99,111,115,116]
def Ju:Bs:=[107,105,110,100]
def Jk {α:Type}(w:Bs)(d:α)(p:Bs→Res α)(u:Bs):Res α:=if cur u=w then p (adv u)else .ok d u
def Wf (u:Bs):Res (List Test):=(Za u).bind fun n u1=>
 if cur u1=[60]then(JK (adv u1)).bind fun c u2=>.ok [⟨n,false,true,c⟩] u2
 else if cur u1=[60,61]then(JK (adv u1)).bind fun c u2=>.ok [⟨n,false,false,c⟩] u2
 else if cur u1=[62]then(JK (adv u1)).bind fun c u2=>.ok [⟨n,true,true,c⟩] u2
 else if cur u1=[62,61]then(JK (adv u1)).bind fun c u2=>.ok [⟨n,true,false,c⟩] u2
 else if cur u1=[61,61]then(JK (adv u1)).bind fun c u2=>.ok [⟨n,false,false,c⟩,⟨n,true,false,c⟩] u2
 else .bad u1
def X6 (f:Nat)(u:Bs):Res (List Test):=(ZV [38,38] Wf f u).bind fun l u1=>.ok l.flatten u1
def VY (f:Nat)(u:Bs):Res Assign:=(Za u).bind fun n u1=>(Ql [61] u1).bind fun _ u2=>(Z0 f u2).bind fun x u3=>.ok ⟨n,x⟩ u3
def UL (u:Bs):Res Clear:=(Za u).bind fun n u1=>(Ql [61] u1).bind fun _ u2=>(JK u2).bind fun x u3=>.ok ⟨n,x⟩ u3
def JO:Exp:=.mk 0 [] 0 []
def Yl (u:Bs):Res Int:=if cur u=Zq then .ok 1 (adv u)else if cur u=YT then .ok 2 (adv u)else .ok 0 u
def WZ (f:Nat)(u:Bs):Res Loc:=(Za u).bind fun n u1=>(Yl u1).bind fun k u2=>(Jk Ua [] (X6 f) u2).bind fun i u3=>(Jk YF 0 JK u3).bind fun r u4=>
 (Ql [59] u4).bind fun _ u5=>.ok ⟨n,k,i,r⟩ u5
def WI (u:Bs):Res (Bs×Bool):=(Za u).bind fun n u1=>if cur u1=[33]then .ok (n,true) (adv u1)else(Ql [63] u1).bind fun _ u2=>.ok (n,false) u2
def Xq (f:Nat)(u:Bs):Res Edge:=
 (Za u).bind fun a u1=>(Ql [45,62] u1).bind fun _ u2=>(Za u2).bind fun b u3=>
 (Jk Yv [] (X6 f) u3).bind fun ts u4=>(Jk JM JO (Z0 f) u4).bind fun c u5=>
 (Jk Y8 ([],false) WI u5).bind fun ch u6=>(Jk VA [] (ZV [44] (VY f) f) u6).bind fun ss u7=>
 (Jk Jb [] (ZV [44] UL f) u7).bind fun cs u8=>(Jk Jz 0 JK u8).bind fun co u9=>
 (Jk Ju 0 JK u9).bind fun k u10=>(Ql [59] u10).bind fun _ u11=>.ok ⟨a,b,ts,c,ch.1,ch.2,ss,cs,co,k⟩ u11
def Jg {α:Type}(w:Bs)(one:Bs→Res α):Nat→List α→Bs→Res (List α)
 |0,_,u=>.bad u
 |f+1,l,u=>if cur u=w then(one (adv u)).bind fun x u1=>Jg w one f (l++[x]) u1 else .ok l u
def Xp (f:Nat)(u:Bs):Res Proc:=
 (Za u).bind fun n u1=>(Ql V1 u1).bind fun _ u2=>(Za u2).bind fun i u3=>(Ql [123] u3).bind fun _ u4=>
 (Jg JD (WZ f) f [] u4).bind fun ls u5=>(Jg JF (Xq f) f [] u5).bind fun es u6=>(Ql [125] u6).bind fun _ u7=>.ok ⟨n,i,ls,es⟩ u7
def Iy (u:Bs):Res Var:=
 (Za u).bind fun n u1=>(Ql M2 u1).bind fun _ u2=>(JK u2).bind fun lo u3=>(Ql [46,46] u3).bind fun _ u4=>(JK u4).bind fun hi u5=>(Ql [61] u5).bind fun _ u6=>(JK u6).bind fun i u7=>.ok ⟨n,lo,hi,i⟩ u7
def ZM (f:Nat)(b g:Bool)(u:Bs):Res (List Chan):=(ZV [44] Za f u).bind fun l u1=>.ok (l.map fun n=>⟨n,b,g⟩) u1
structure Decls where
 clocks:List Bs
 vars:List Var
 chans:List Chan
def Decls.add (a b:Decls):Decls:=⟨a.clocks++b.clocks,a.vars++b.vars,a.chans++b.chans⟩
def Yp (f:Nat)(u:Bs):Option (Res Decls):=
 if cur u=Kw then some ((ZV [44] Za f (adv u)).bind fun l u1=>.ok ⟨l,[],[]⟩ u1)
 else if cur u=VE then some ((Iy (adv u)).bind fun v u1=>.ok ⟨[],[v],[]⟩ u1)
 else if cur u=J7 then some ((ZM f false false (adv u)).bind fun l u1=>.ok ⟨[],[],l⟩ u1)
 else if cur u=Zq then some ((Ql J7 (adv u)).bind fun _ u1=>(ZM f false true u1).bind fun l u2=>.ok ⟨[],[],l⟩ u2)
 else if cur u=Jr then some (
  if cur (adv u)=Zq then(Ql J7 (adv (adv u))).bind fun _ u1=>(ZM f true true u1).bind fun l u2=>.ok ⟨[],[],l⟩ u2
  else(Ql J7 (adv u)).bind fun _ u1=>(ZM f true false u1).bind fun l u2=>.ok ⟨[],[],l⟩ u2)
 else none
def Jc (N:Nat):Nat→Decls→Bs→Res Decls
 |0,_,u=>.bad u
 |f+1,d,u=>match Yp N u with
  |none=>.ok d u
  |some r=>r.bind fun x u1=>(Ql [59] u1).bind fun _ u2=>Jc N f (d.add x) u2
def U6 (N:Nat):Nat→List Func→Bs→Res (List Func)
 |0,_,u=>.bad u
 |f+1,l,u=>if cur u=VL then(V4 N u).bind fun x u1=>U6 N f (l++[x]) u1 else .ok l u
def X7 (N:Nat)(u:Bs):Res Model:=
 (Ql UI u).bind fun _ u1=>(Za u1).bind fun n u2=>(Ql [59] u2).bind fun _ u3=>(Jc N N ⟨[],[],[]⟩ u3).bind fun d u4=>
 (U6 N N [] u4).bind fun fs u5=>(Jg ZQ (Xp N) N [] u5).bind fun ps u6=>if u6=[]then .ok ⟨n,d.clocks,d.vars,d.chans,fs,ps⟩ u6 else .bad u6
def ZJ (n:Int):Bool:=decide (-2147483648≤n∧n≤2147483648)
def Zo (k:Int):Option (Option Nat):=
 if k=1∨k=2 then some (some 0)else if k=3∨k=4 then some (some 1)else if 5≤k∧k≤17 then some (some 2)else if k=18 then some (some 3)else if k=19 then some none else none
def Yf (k:Int)(n:Bs)(i:Int)(many:Nat):Bool:=
 (match Zo k with
  |none=>false
  |some none=>true
  |some (some m)=>many==m)&&
 (i==0||k==1)&&ZJ i&&(if k=2∨k=19 then Qe n else n.isEmpty)
mutual
def ZC:Exp→Bool
 | .mk k n i xs=>Yf k n i xs.length&&Ix xs
def Ix:List Exp→Bool
 |[]=>true
 |x::xs=>ZC x&&Ix xs
end
def Wu (k:Int)(n:Bs)(b e:Nat):Bool:=
 decide (1≤k∧k≤5)&&(if k=1∨k=2 then Qe n else n.isEmpty)&&(b==0||k==3||k==4)&&(e==0||k==3)
mutual
def Uq:Stmt→Bool
 | .mk k n v b e=>Wu k n b.length e.length&&ZC v&&UX b&&UX e
def UX:List Stmt→Bool
 |[]=>true
 |x::xs=>Uq x&&UX xs
end
structure Siz where
 nodes:Nat
 depth:Nat
 wide:Bool
 deriving DecidableEq
def Siz.inn (m n:Siz):Siz:=⟨m.nodes+n.nodes,max m.depth (1+n.depth),m.wide||n.wide⟩
def Siz.small (m:Siz):Bool:=decide (m.nodes≤400)&&decide (m.depth≤30)&& !m.wide
mutual
def Z8:Exp→Siz
 | .mk _ _ _ xs=>Zh ⟨1,1,decide (xs.length>4)⟩ xs
def Zh:Siz→List Exp→Siz
 |m,[]=>m
 |m,x::xs=>Zh (m.inn (Z8 x)) xs
end
mutual
def Jj:Stmt→Siz
 | .mk _ _ v b e=>Z9 (Z9 (Siz.inn ⟨1,1,false⟩ (Z8 v)) b) e
def Z9:Siz→List Stmt→Siz
 |m,[]=>m
 |m,x::xs=>Z9 (m.inn (Jj x)) xs
end
def Zm (x:Exp):Bool:=(Z8 x).small
def Siz.bes (m n:Siz):Siz:=⟨m.nodes+n.nodes,max m.depth n.depth,m.wide||n.wide⟩
def Zy (m:Siz)(l:List Stmt):Siz:=l.foldl (fun m s=>m.bes (Jj s)) m
def J8 (m:Siz)(l:List Func):Siz:=l.foldl (fun m f=>Zy m f.body) m
def JZ (l:List Func):Bool:=l.all (fun f=>decide (f.params.length≤4))&&(J8 ⟨0,0,false⟩ l).small&&decide (l.length≤8)
def Us (l:List Func):Bool:=l.all fun f=>Qe f.name&&f.params.all Qe&&UX f.body
def GP:Int:=2
def P6:Int:=3
def isNone (x:Exp):Bool:=x.kind==0&&x.name.isEmpty&&x.int==0&&x.args.isEmpty
def Vp (t:Test):Bool:=Qe t.clock&&ZJ t.c
def Y2 (x:Edge):Bool:=
 Qe x.src&&Qe x.dst&&x.tests.all Vp&&(isNone x.cond||ZC x.cond)&&(!x.chan.isEmpty|| !x.send)&&(x.chan.isEmpty||Qe x.chan)&&
 x.sets.all (fun a=>Qe a.name&&ZC a.val)&&x.clears.all (fun c=>Qe c.clock&&ZJ c.tv)&&ZJ x.cost&&ZJ x.kind
def Vm (l:Loc):Bool:=Qe l.name&&decide (0≤l.kind∧l.kind≤2)&&l.inv.all Vp&&ZJ l.rate
def YG (p:Proc):Bool:=Qe p.name&&Qe p.init&&p.locs.all Vm&&p.edges.all Y2
def Ob (c:Chan):Bool:=Qe c.name
def W5 (v:Var):Bool:=Qe v.name&&(ZJ v.low&&(ZJ v.high&&ZJ v.init))
def WQ (m:Model):Bool:=
 Qe m.name&&m.clocks.all Qe&&m.vars.all W5&&m.chans.all Ob&&Us m.funcs&&m.procs.all YG
def Uj (x:Edge):Bool:=decide (x.tests.length≤16)&&(isNone x.cond||Zm x.cond)&&decide (x.sets.length≤16)&&x.sets.all (fun a=>Zm a.val)&&decide (x.clears.length≤16)
def Xu (p:Proc):Bool:=decide (p.locs.length≤20)&&decide (p.edges.length≤60)&&p.locs.all (fun l=>decide (l.inv.length≤16))&&p.edges.all Uj
def Ub (m:Model):Bool:=decide (m.clocks.length≤8)&&decide (m.vars.length≤16)&&decide (m.chans.length≤16)&&JZ m.funcs&&decide (m.procs.length≤6)&&m.procs.all Xu
def Vo (m:Model):Int:=if WQ m then(if Ub m then 0 else P6)else GP
structure At (s u:Bs):Prop where
 suf:u<:+s
 nrm:QG false u=0
theorem At.le {s u:Bs}(h:At s u):u.length≤s.length:=h.suf.length_le
theorem At.drop {s u:Bs}(h:At s u):s.drop (s.length - u.length)=u:=by
 obtain⟨t,rfl⟩:=h.suf
 rw[cC,Nat.add_sub_cancel]
 simp
theorem HH (u:Bs):skip u<:+u:=List.drop_suffix _ _
theorem adv_suf (u:Bs):adv u<:+u:=(HH _).trans (List.drop_suffix _ _)
theorem XN:∀(u:Bs) (b:Bool),QG false (u.drop (QG b u))=0
 |[],b=>by cases b <;> simp [QG]
 |c::r,true=>by
  simp only[QG]
  split
  ·rename_i h
   rw[show 1+QG false r=QG false r+1 from by omega,List.drop_succ_cons]
   exact XN r false
  ·rw[show 1+QG true r=QG true r+1 from by omega,List.drop_succ_cons]
   exact XN r true
 |c::r,false=>by
  by_cases h1:(c==47&&r.head?==some 47)=true
  ·have e:QG false (c::r)=QG true r+1:=by simp only[QG,h1,if_true];omega
   rw[e,List.drop_succ_cons]
   exact XN r true
  ·by_cases h2:W7 c=true
   ·have e:QG false (c::r)=QG false r+1:=by simp only[QG,h1,h2,if_true,cB,if_false];omega
    rw[e,List.drop_succ_cons]
    exact XN r false
   ·have e:QG false (c::r)=0:=by simp only[QG,h1,h2,cB,if_false]
    rw[e,List.drop_zero];exact e
theorem At.skip {s u:Bs}(h:u<:+s):At s (skip u):=⟨(HH u).trans h,XN u false⟩
theorem At.adv {s u:Bs}(h:At s u):At s (adv u):=At.skip ((List.drop_suffix _ _).trans h.suf)
theorem At.nil (s:Bs):At s []:=⟨List.nil_suffix,rfl⟩
theorem TF {u:Bs}(h:u≠[]):0<Z4 u:=by
 unfold Z4
 split
 ·exact absurd rfl h
 ·rename_i c r
  split
  ·rename_i hc
   rw[List.takeWhile_cons_of_pos (by simp [JI,hc])];simp
  ·split
   ·rename_i hc
    rw[List.takeWhile_cons_of_pos hc];simp
   ·split <;> omega
theorem NA {u:Bs}(h:u≠[]):(adv u).length<u.length:=by
 have h1:=(HH (u.drop (Z4 u))).length_le
 have h2:=TF h
 have h3:0<u.length:=List.length_pos_iff.2 h
 simp only[adv]
 simp only[dW]at h1
 omega
theorem MY {u w:Bs}(h:cur u=w)(hw:w≠[]):(adv u).length<u.length:=NA fun e=>by
 subst e;exact hw (by rw[←h];rfl)
def rd (s u:Bs)(lo:Bool):AObj:=Zz s (s.length - u.length) (s.length - u.length+Z4 u) lo
section
variable (G:Nat→Option (List AV))
theorem KN {A:Q3}{r:Nat}{s u:Bs}{lo:Bool}(hr:A r=some (rd s u lo))(hu:At s u):Qu Tryz.prog G 83 [.ptr r 0] A (.str (cur u)) A:=by
 have h1:=H3 u
 have h2:=hu.le
 have:=f83 G hr (by omega) (by omega)
 rwa [hu.drop,Nat.add_sub_cancel_left]at this
theorem W6 {A:Q3}{r:Nat}{s u:Bs}{lo:Bool}(hr:A r=some (rd s u lo))(hu:At s u)(hs:s.length<2^62):Qu Tryz.prog G 23 [.ptr r 0] A ZK (A.upd r (some (rd s (adv u) lo))):=by
 have h1:=H3 u
 have h2:=hu.le
 have e1:s.drop (s.length - u.length+Z4 u)=u.drop (Z4 u):=by rw[←lC,hu.drop]
 have h3:=YD (u.drop (Z4 u)) false
 simp only[dW]at h3
 have e2:s.length - (adv u).length=s.length - u.length+Z4 u+QG false (u.drop (Z4 u)):=by
  simp only[adv,skip,dW];omega
 have:=f23 G hr (by omega) hs _ rfl
 rw[e1,←lC,e1]at this
 have e3:rd s (adv u) lo=Zz s (s.length - u.length+Z4 u+QG false (u.drop (Z4 u))) (s.length - u.length+Z4 u+QG false (u.drop (Z4 u))+Z4 (List.drop (QG false (u.drop (Z4 u))) (u.drop (Z4 u)))) lo:=by
  simp only[rd,e2];rfl
 rw[e3];exact this
theorem Tf {A:Q3}{r:Nat}{s u w:Bs}{lo:Bool}(hr:A r=some (rd s u lo))(hu:At s u)(hs:s.length<2^62):
 Qu Tryz.prog G 87 [.ptr r 0,.str w] A (bo (decide (cur u=w))) (if cur u=w then A.upd r (some (rd s (adv u) lo))else A):=by
 refine Q4 l87 (fE rfl) ?_
 simp only[C87,Ji,Jh,Ve,Vg,Vf,Qr,Qm,reduceIte,reduceCtorEq,Nat.reduceEqDiff,Nat.reduceAdd,Nat.reduceMul,Nat.reduceLeDiff,Nat.reduceSub,Int.reduceLE,Int.reduceLT,Int.reduceToNat,cA,cB,true_and,and_true,Z6]
 refine Q2 (KN G hr hu) ?_
 simp only[Ji,Jh,Ve,Vg,Vf,Qr,Qm,reduceIte,reduceCtorEq,Nat.reduceEqDiff,Nat.reduceAdd,Nat.reduceMul,Nat.reduceLeDiff,Nat.reduceSub,Int.reduceLE,Int.reduceLT,Int.reduceToNat,cA,cB,true_and,and_true,Z6]
 refine⟨fun h=> ?_,fun h=> ?_⟩
 ·refine Q2 (W6 G hr hu hs) ?_
  simp only[Ji,Jh,Ve,Vg,Vf,Qr,Qm,reduceIte,reduceCtorEq,Nat.reduceEqDiff,Nat.reduceAdd,Nat.reduceMul,Nat.reduceLeDiff,Nat.reduceSub,Int.reduceLE,Int.reduceLT,Int.reduceToNat,cA,cB,true_and,and_true,Z6]
  rw[fC h,fA h]
  exact Qx rfl (U2.refl _)
 ·rw[fD h,fB h]
  exact Qx rfl (U2.refl _)
end
def Ug (t:TypeId)(s u:Bs):AV:=.iface t (.agg [i64 (s.length - u.length:Nat)])
def Jo {α:Type}(r:Nat)(s:Bs)(A:Q3)(lo:Bool)(big:α→Bool)(enc:α→AV):Res α→Out→Q3→Prop
 | .ok a u,o,A'=>o=.ret (enc a)∧A'=A.upd r (some (rd s u (lo||big a)))
 | .bad u,o,A'=>o=.pan (Ug 59 s u)∧A'=A.upd r none
def Zs {α:Type}:α→Bool:=fun _=>false
theorem XC {A B:Q3}(h:∀k,B k=A k∨B k=none∧∀es,A k=some (.mp es)→∀j l e,B j≠some (.mit (some k) l e)):U2 A B:=
 Se (fun k=>(h k).elim .inr fun h=>.inl h.1) fun j m l e hj hb es he=>by
  rcases h m with h1|h1
  ·rw[hb,he]at h1;cases h1
  ·exact h1.2 es he j l e hj
def QK (r:Nat)(A A':Q3):Prop:=∀k,k≠r→A' k=A k∨A k=none∧∀es,A' k=some (.mp es)→∀j l e,A j=some (.mit (some k) l e)→j=r
theorem QK.refl (r:Nat)(A:Q3):QK r A A:=fun _ _=>.inl rfl
theorem QK.at {r:Nat}{A A':Q3}(h:QK r A A')(x:Option AObj):QK r A (A'.upd r x):=fun k hk=>by rw[Q5 hk];exact h k hk
theorem QK.gone {r:Nat}{A A':Q3}(h:QK r A A'){t:Nat}(hr:t≠r)(ht:A' t=none):A t=none:=by
 rcases h t hr with h1|h1
 ·rw[←h1,ht]
 ·exact h1.1
theorem QK.keep {r:Nat}{A A':Q3}(h:QK r A A'){k:Nat}{o:AObj}(hk:k≠r)(ho:A k=some o):A' k=some o:=by
 rcases h k hk with h1|h1
 ·rw[h1,ho]
 ·rw[h1.1]at ho;cases ho
theorem QK.trans {r:Nat}{A B C:Q3}(h:QK r A B)(k:QK r B C):QK r A C:=fun j hj=>by
 rcases h j hj with h1|h1 <;> rcases k j hj with h2|h2
 ·exact .inl (h2.trans h1)
 ·refine .inr ⟨h1▸h2.1,fun es he i l e hi=> ?_⟩
  by_cases hir:i=r
  ·exact hir
  ·exact h2.2 es he i l e (h.keep hir hi)
 ·exact .inr ⟨h1.1,fun es he=>h1.2 es (by rw[←h2];exact he)⟩
 ·refine .inr ⟨h1.1,fun es he i l e hi=> ?_⟩
  by_cases hir:i=r
  ·exact hir
  ·exact h2.2 es he i l e (h.keep hir hi)
theorem QK.set {r:Nat}{A A':Q3}(h:QK r A A'){t:Nat}(ht:A t=none){o:Option AObj}(ho:∀es,o≠some (.mp es)):QK r A (A'.upd t o):=fun k hk=>by
 by_cases e:k=t
 ·subst e;rw[Q0];exact .inr ⟨ht,fun es he=>absurd he (ho es)⟩
 ·rw[Q5 e];exact h k hk
theorem QK.mp {r:Nat}{A A':Q3}(h:QK r A A'){t:Nat}(ht:A t=none)(hi:∀j l e,A j=some (.mit (some t) l e)→j=r)(o:Option AObj):QK r A (A'.upd t o):=fun k hk=>by
 by_cases e:k=t
 ·subst e;exact .inr ⟨ht,fun _ _=>hi⟩
 ·rw[Q5 e];exact h k hk
theorem QK.tip {r:Nat}{A A':Q3}(h:QK r A A'){t:Nat}(hr:t≠r)(ht:A' t=none):QK r A (A'.upd t (some .tip)):=h.set (h.gone hr ht) (by simp)
theorem QK.wk {r:Nat}{A A':Q3}(h:QK r A A'){x:AObj}(hx:A' r=some x)(hm:∀m l e,x≠ .mit m l e):U2 A' (A.upd r (some x)):=XC fun k=>by
 by_cases e:k=r
 ·subst e;rw[Q0,hx];exact .inl rfl
 ·rw[Q5 e]
  rcases h k e with h1|h1
  ·exact .inl h1.symm
  ·refine .inr ⟨h1.1,fun es he j l e' hj=> ?_⟩
   by_cases hjr:j=r
   ·subst hjr;rw[Q0]at hj;simp only[cA]at hj;exact hm _ _ _ hj
   ·rw[Q5 hjr]at hj;exact hjr (h1.2 es he j l e' hj)
theorem QK.wk0 {r:Nat}{A A':Q3}(h:QK r A A'):U2 (A'.upd r none) (A.upd r none):=XC fun k=>by
 by_cases e:k=r
 ·subst e;rw[Q0,Q0];exact .inl rfl
 ·rw[Q5 e,Q5 e]
  rcases h k e with h1|h1
  ·exact .inl h1.symm
  ·refine .inr ⟨h1.1,fun es he j l e' hj=> ?_⟩
   by_cases hjr:j=r
   ·subst hjr;rw[Q0]at hj;cases hj
   ·rw[Q5 hjr]at hj;exact hjr (h1.2 es he j l e' hj)
theorem Q9 {A:Q3}{r t:Nat}{x:AObj}(h:(A.upd r (some x)) t=none):t≠r∧A t=none:=by
 by_cases e:t=r
 ·subst e;simp at h
 ·rw[Q5 e]at h;exact⟨e,h⟩
theorem Q6 {A:Q3}{r t:Nat}{x:AObj}(hr:A r=some x)(ht:A t=none):r≠t:=fun e=>by subst e;rw[hr]at ht;cases ht
section
variable {P:Program}{G:Nat→Option (List AV)}{α β:Type}{f:FuncId}{first args cap:List AV}{A A0:Q3}{r:Nat}{s:Bs}{lo lo0:Bool}{big:α→Bool}{big0:β→Bool}{enc:α→AV}{enc0:β→AV}{res:List LRes}
 {d:Option Nat}{l:List LInstr}{st:List Fr}{env:Qo}
theorem YM {R:Res α}{k:α→Bs→Res β}(h:Qt P G f (first++args++cap) A (Jo r s A lo big enc R))(hw:U2 (A.upd r none) (A0.upd r none))
 (hok:∀a u,R=.ok a u→(Cx.of P G false res (Jo r s A0 lo0 big0 enc0 (k a u))).ops l st (putD env d (enc a)) [] (A.upd r (some (rd s u (lo||big a))))):
 (Cx.of P G false res (Jo r s A0 lo0 big0 enc0 (R.bind k))).call (.func (.func f) first cap) args d l st env [] A:=by
 cases R with
 |ok a u=>exact Qk h fun o A' hk=>by obtain⟨rfl,rfl⟩:=hk;exact hok a u rfl
 |bad u=>
  refine Qk h fun o A' hk=> ?_
  obtain⟨rfl,rfl⟩:=hk
  show(Cx.of P G false res (Jo r s A0 lo0 big0 enc0 (.bad u))).X (Yy _ env) [] (Ug 59 s u) (A.upd r none)
  rw[XF]
  exact⟨_,hw,rfl,rfl⟩
theorem Kf {v:AV}{a:β}{u:Bs}(h:Wk v (enc0 a))(hA:U2 A (A0.upd r (some (rd s u (lo0||big0 a))))):Vl (some v) (Jo r s A0 lo0 big0 enc0 (.ok a u)) A:=
 J0 h hA ⟨rfl,rfl⟩
end
theorem Qp {α:Type}{lo:Bool}{a:α}:(lo||Zs a)=lo:=by simp [Zs]
section
variable (G:Nat→Option (List AV))
theorem PX {A:Q3}{r:Nat}{s u:Bs}{lo:Bool}{α:Type}{lo0:Bool}{big:α→Bool}{enc:α→AV}(hr:A r=some (rd s u lo)):Qt Tryz.prog G 89 [.ptr r 0] A (Jo r s A lo0 big enc (.bad u)):=by
 refine Q4 l89 (fE rfl) ?_
 simp only[C89,hr,rd,Zz,Ji,Jh,Ve,Vg,Vf,Qr,Qm,reduceIte,reduceCtorEq,Nat.reduceEqDiff,Nat.reduceAdd,Nat.reduceMul,Nat.reduceLeDiff,Nat.reduceSub,Int.reduceLE,Int.reduceLT,Int.reduceToNat,cA,cB,true_and,and_true,Z6]
 refine JY (v:=.agg [i64 (s.length - u.length:Nat)]) rfl ?_
 simp only[XF,Ji,Jh,Ve,Vg,Vf,Qr,Qm,reduceIte,reduceCtorEq,Nat.reduceEqDiff,Nat.reduceAdd,Nat.reduceMul,Nat.reduceLeDiff,Nat.reduceSub,Int.reduceLE,Int.reduceLT,Int.reduceToNat,cA,cB,true_and,and_true,Z6]
 exact⟨_,XC (fun k=>by by_cases e:k=r <;> simp [Q3.upd,e,hr,rd,Zz]),rfl,rfl⟩
theorem YQ {A:Q3}{r:Nat}{s u w:Bs}{lo:Bool}(hr:A r=some (rd s u lo))(hu:At s u)(hs:s.length<2^62):
 Qt Tryz.prog G 80 [.ptr r 0,.str w] A (Jo r s A lo Zs (fun _=>ZK) (Ql w u)):=by
 refine Q4 l80 (fE rfl) ?_
 simp only[C80,Ji,Jh,Ve,Vg,Vf,Qr,Qm,reduceIte,reduceCtorEq,Nat.reduceEqDiff,Nat.reduceAdd,Nat.reduceMul,Nat.reduceLeDiff,Nat.reduceSub,Int.reduceLE,Int.reduceLT,Int.reduceToNat,cA,cB,true_and,and_true,Z6]
 refine Q2 (Tf G hr hu hs) ?_
 by_cases h:cur u=w
 ·simp only[fA h,fC h,Ql,QQ,Ji,Jh,Ve,Vg,Vf,Qr,Qm,reduceIte,reduceCtorEq,Nat.reduceEqDiff,Nat.reduceAdd,Nat.reduceMul,Nat.reduceLeDiff,Nat.reduceSub,Int.reduceLE,Int.reduceLT,Int.reduceToNat,cA,cB,true_and,and_true,Z6]
  exact Kf (Wk.refl _) (by rw[Qp];exact U2.refl _)
 ·simp only[fB h,fD h,Ql,Ji,Jh,Ve,Vg,Vf,Qr,Qm,reduceIte,reduceCtorEq,Nat.reduceEqDiff,Nat.reduceAdd,Nat.reduceMul,Nat.reduceLeDiff,Nat.reduceSub,Int.reduceLE,Int.reduceLT,Int.reduceToNat,cA,cB,true_and,and_true,Z6]
  exact YM (R:=.bad u) (k:=fun(a:Unit) u=>.ok a u) (PX (enc:=fun _=>ZK) (lo0:=lo) (big:=Zs) G hr) (U2.refl _) (fun _ _ h=>by cases h)
theorem WR {A:Q3}{r:Nat}{s u:Bs}{lo:Bool}(hr:A r=some (rd s u lo))(hu:At s u)(hs:s.length<2^62):
 Qt Tryz.prog G 81 [.ptr r 0] A (Jo r s A lo Zs .str (Za u)):=by
 have hl:(cur u).length<2^62:=by
  have:=hu.le
  simp only[cur,lJ];omega
 refine Q4 l81 (fE rfl) ?_
 simp only[C81,Ji,Jh,Ve,Vg,Vf,Qr,Qm,reduceIte,reduceCtorEq,Nat.reduceEqDiff,Nat.reduceAdd,Nat.reduceMul,Nat.reduceLeDiff,Nat.reduceSub,Int.reduceLE,Int.reduceLT,Int.reduceToNat,cA,cB,true_and,and_true,Z6]
 refine Q2 (KN G hr hu) ?_
 simp only[Ji,Jh,Ve,Vg,Vf,Qr,Qm,reduceIte,reduceCtorEq,Nat.reduceEqDiff,Nat.reduceAdd,Nat.reduceMul,Nat.reduceLeDiff,Nat.reduceSub,Int.reduceLE,Int.reduceLT,Int.reduceToNat,cA,cB,true_and,and_true,Z6]
 refine Q2 (IA G (cur u) A hl) ?_
 cases h:Qe (cur u)with
 |true=>
  simp only[Za,h,Ji,Jh,Ve,Vg,Vf,Qr,Qm,reduceIte,reduceCtorEq,Nat.reduceEqDiff,Nat.reduceAdd,Nat.reduceMul,Nat.reduceLeDiff,Nat.reduceSub,Int.reduceLE,Int.reduceLT,Int.reduceToNat,cA,cB,true_and,and_true,Z6]
  refine Q2 (W6 G hr hu hs) ?_
  simp only[Ji,Jh,Ve,Vg,Vf,Qr,Qm,reduceIte,reduceCtorEq,Nat.reduceEqDiff,Nat.reduceAdd,Nat.reduceMul,Nat.reduceLeDiff,Nat.reduceSub,Int.reduceLE,Int.reduceLT,Int.reduceToNat,cA,cB,true_and,and_true,Z6]
  exact Kf (Wk.refl _) (by rw[Qp];exact U2.refl _)
 |false=>
  simp only[Za,h,Ji,Jh,Ve,Vg,Vf,Qr,Qm,reduceIte,reduceCtorEq,Nat.reduceEqDiff,Nat.reduceAdd,Nat.reduceMul,Nat.reduceLeDiff,Nat.reduceSub,Int.reduceLE,Int.reduceLT,Int.reduceToNat,cA,cB,true_and,and_true,Z6]
  exact YM (R:=.bad u) (k:=fun(a:Bs) u=>.ok a u) (PX (enc:=.str) (lo0:=lo) (big:=Zs) G hr) (U2.refl _) (fun _ _ h=>by cases h)
end
end Go.Proofs.YtcbjbgaefighcaaGreatDoor
