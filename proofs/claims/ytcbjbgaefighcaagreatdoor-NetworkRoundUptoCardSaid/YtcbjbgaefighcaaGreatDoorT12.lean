/- Part 12 of the proof. -/
import Derived.Test.YtcbjbgaefighcaaGreatDoorT0
import Derived.Test.YtcbjbgaefighcaaGreatDoorT7
import Derived.Test.YtcbjbgaefighcaaGreatDoorT8
import Derived.Test.YtcbjbgaefighcaaGreatDoorT11
import Derived.Lib.Bytealg
set_option linter.all false
namespace Go.Proofs.YtcbjbgaefighcaaGreatDoor
open Go Go.Ax Go.Proofs
def XY (c:UInt8):Bool:=c==32||c==9||c==13||c==10
def QG:Bool→List UInt8→Nat
 |_,[]=>0
 |true,c::r=>if c==10 then 1+QG false r else 1+QG true r
 |false,c::r=>if c==47&&r.head?==some 47 then 1+QG true r else if XY c then 1+QG false r else 0
def Yp:List (List UInt8):=[[124,124],[38,38],[60,61],[62,61],[61,61],[33,61],[45,62],[46,46]]
def Z3 (s:List UInt8):Nat:=match s with
 |[]=>0
 |c::r=>if Yu c then(s.takeWhile Y3).length else if J7 c then(s.takeWhile J7).length else if s.take 2∈Yp then 2 else 1
theorem Yx:∀(t:List UInt8) (b:Bool),QG b t≤t.length
 |[],b=>by cases b <;> simp [QG]
 |c::r,true=>by
  have h1:=Yx r true
  have h2:=Yx r false
  simp only[QG,cE]
  split <;> omega
 |c::r,false=>by
  have h1:=Yx r true
  have h2:=Yx r false
  simp only[QG,cE]
  split
  ·omega
  ·split <;> omega
theorem KK:∀(t:List UInt8),Lib.indexByte t 10<0→QG true t=t.length:=by
 intro t
 induction t with
 |nil=>intro _;rfl
 |cons c r ih=>
  intro h
  have hge:=Lib.indexByte_ge r 10
  simp only[Lib.indexByte]at h
  split at h
  ·omega
  ·rename_i hc
   have:Lib.indexByte r 10<0:=by
    split at h
    ·rename_i h1;rw[beq_iff_eq]at h1;omega
    ·rename_i h1;simp only[beq_iff_eq]at h1;omega
   simp only[QG,hc,cB,if_false,ih this,cE]
   omega
theorem yC (r:List UInt8):QG false (10::r)=1+QG false r:=by
 simp [QG,XY]
theorem KJ:∀(t:List UInt8) (k:Nat),Lib.indexByte t 10=k→QG true t=k+QG false (t.drop k):=by
 intro t
 induction t with
 |nil=>intro k h;simp only[Lib.indexByte]at h;omega
 |cons c r ih=>
  intro k h
  have hge:=Lib.indexByte_ge r 10
  simp only[Lib.indexByte]at h
  split at h
  ·rename_i hc
   have hk:k=0:=by omega
   subst hk
   rw[beq_iff_eq.1 hc]
   simp [QG,XY]
  ·rename_i hc
   split at h
   ·omega
   ·rename_i h1
    obtain⟨j,rfl⟩:∃j,k=j+1:=⟨k - 1,by simp only[beq_iff_eq]at h1;omega⟩
    have:=ih j (by omega)
    simp only[QG,hc,cB,if_false,this,List.drop_succ_cons]
    omega
theorem Hi (x:UInt8)(t:List UInt8)(c:UInt8)(h:(x==c)=false):Lib.indexByte (x::t) c≠0:=by
 have:=Lib.indexByte_ge t c
 simp only[Lib.indexByte,h,cB,if_false]
 split
 ·omega
 ·rename_i h1
  simp only[beq_iff_eq]at h1
  omega
theorem Oc {t:List UInt8}(h:[47,47].isPrefixOf t=true):QG false t=QG true t∧Lib.indexByte t 10≠0:=by
 match t,h with
 |[],h=>simp [List.isPrefixOf]at h
 |[c],h=>simp [List.isPrefixOf]at h
 |c::d::r,h=>
  simp only[List.isPrefixOf,cD,beq_iff_eq]at h
  obtain⟨rfl,rfl,_⟩:=h
  exact⟨by simp [QG],Hi _ _ _ (by decide)⟩
theorem XF (c:UInt8):(Lib.indexByte [32,9,13,10] c<0)↔XY c=false:=by
 by_cases h1:c=32
 ·subst h1;decide
 by_cases h2:c=9
 ·subst h2;decide
 by_cases h3:c=13
 ·subst h3;decide
 by_cases h4:c=10
 ·subst h4;decide
 have e1:((32:UInt8)==c)=false:=by simpa using fun e=>h1 e.symm
 have e2:((9:UInt8)==c)=false:=by simpa using fun e=>h2 e.symm
 have e3:((13:UInt8)==c)=false:=by simpa using fun e=>h3 e.symm
 have e4:((10:UInt8)==c)=false:=by simpa using fun e=>h4 e.symm
 have f:XY c=false:=by simp [XY,h1,h2,h3,h4]
 simp [Lib.indexByte,e1,e2,e3,e4,f]
theorem Lz {t r:List UInt8}{c:UInt8}(ht:t=c::r)(h:[47,47].isPrefixOf t=false):QG false t=if XY c then 1+QG false r else 0:=by
 subst ht
 have:(c==47&&r.head?==some 47)=false:=by
  cases r with
  |nil=>simp
  |cons d r=>
   simp only[List.isPrefixOf,dB]at h
   rw[Bool.beq_comm (a:=c),List.head?_cons]
   have e:(some d==some (47:UInt8))=(47==d):=by rw[Bool.beq_comm];rfl
   rw[e];exact h
 simp only[QG,this,cB,if_false]
theorem H5 (s:List UInt8):Z3 s≤s.length:=by
 unfold Z3
 split
 ·simp
 ·rename_i c r
  have h1:((c::r).takeWhile Y3).length≤(c::r).length:=(List.takeWhile_sublist _).length_le
  have h2:((c::r).takeWhile J7).length≤(c::r).length:=(List.takeWhile_sublist _).length_le
  split
  ·exact h1
  ·split
   ·exact h2
   ·split
    ·rename_i hp
     cases r with
     |nil=>simp [Yp]at hp
     |cons d r=>simp
    ·simp
theorem TZ (c d:UInt8):((c.toNat:Int)==(d.toNat:Int))=(c==d):=by
 cases h:(c==d)with
 |true=>rw[beq_iff_eq.1 h];simp
 |false=>
  have hne:c≠d:=by simpa using h
  have:c.toNat≠d.toNat:=fun e=>hne (UInt8.toNat_inj.1 e)
  simp only[beq_eq_false_iff_ne,ne_eq]
  omega
theorem Ui {f:UInt8→Bool}:∀{t:List UInt8} {k:Nat},k≤t.length→(t.take k).all f=true→(∀c,t[k]? =some c→f c=false)→(t.takeWhile f).length=k
 |[],k,h,_,_=>by simp at h;simp [h]
 |c::t,0,_,_,h3=>by
  have:=h3 c (by simp)
  simp [List.takeWhile_cons,this]
 |c::t,k+1,h1,h2,h3=>by
  simp only[List.take_succ_cons,dU,cD]at h2
  simp only[List.takeWhile_cons,h2.1,if_true,cE,Nat.add_right_cancel_iff]
  exact Ui (by simpa using h1) h2.2 (fun d hd=>h3 d (by simpa using hd))
theorem XG {f:UInt8→Bool}{t:List UInt8}{k:Nat}{c:UInt8}(h:(t.take k).all f=true)(hc:t[k]? =some c)(hf:f c=true):(t.take (k+1)).all f=true:=by
 obtain⟨hlt,rfl⟩:=fO.1 hc
 rw[←List.take_append_getElem hlt,fK,h]
 simp [hf]
def Zv (s:List UInt8)(a b:Nat)(l:Bool):AObj:=.cells [.str s,i64 a,i64 b,bo l]
section
variable (G:Nat→Option (List AV))
theorem f83 {A:Q2}{r:Nat}{s:List UInt8}{a b:Nat}{l:Bool}(hr:A r=some (Zv s a b l))(hab:a≤b)(hb:b≤s.length):QB Tryz.prog G 83 [.ptr r 0] A (.str ((s.drop a).take (b - a))) A:=by
 refine Q4 l83 (fE rfl) ?_
 simp only[C83,hr,Zv,ZK,seval]
 refine⟨⟨by omega,by omega,by omega⟩,?_⟩
 exact Qv (by simp) (VU.refl _)
theorem f23 {A:Q2}{r:Nat}{s:List UInt8}{a b:Nat}{l:Bool}(hr:A r=some (Zv s a b l))(hb:b≤s.length)(hs:s.length<2^62)(p:Nat)(hp:p=b+QG false (s.drop b)):
 QB Tryz.prog G 23 [.ptr r 0] A ZD (A.upd r (some (Zv s p (p+Z3 (s.drop p)) l))):=by
 refine Q4 l23 (fE rfl) ?_
 unfold C23
 refine Qb (fun env ds A'=>env 0=.ptr r 0∧env 2=i64 b∧ds=[]∧A'=A) ?_ ?_
 ·simp only[hr,Zv,ZK,seval]
 rintro env ds A' ⟨h0,h2,rfl,rfl⟩
 refine Qb (fun env ds A''=>env 0=.ptr r 0∧env 2=i64 p∧ds=[]∧A''=A') ?_ ?_
 ·rw[Vm]
  refine Qt (fun n env ds A1=>∃i:Nat,b≤i∧i≤s.length∧n=s.length - i∧env 0=.ptr r 0∧env 2=i64 i∧ds=[]∧A1=A'∧p=i+QG false (s.drop i)) (s.length - b) ⟨b,fG _,hb,rfl,h0,h2,rfl,rfl,hp⟩ ?_
  rintro n env ds A1 ⟨i,hbi,his,rfl,h0,h2,rfl,rfl,hpi⟩
  simp only[hr,Zv,h0,h2,ZK,seval]
  refine⟨fun h=> ?_,fun h=> ?_⟩
  ·have hlt:i<s.length:=by omega
   refine⟨⟨by omega,by omega,by omega⟩,?_⟩
   have e1:List.take ((s.length:Int).toNat - (i:Int).toNat) (List.drop (i:Int).toNat s)=s.drop i:=by
    rw[dX (by simp)];simp
   simp only[e1,ZK,seval]
   refine Q3 (f75 G (s.drop i) [47,47] A1) ?_
   cases hpre:[47,47].isPrefixOf (s.drop i)with
   |true=>
    simp only[hr,Zv,h0,h2,ZK,seval]
    refine⟨⟨by omega,by omega,by omega⟩,?_⟩
    simp only[e1,ZK,seval]
    refine Q3 (RO G (s.drop i) 10 A1) ?_
    simp only[hr,Zv,h0,h2,ZK,seval]
    obtain⟨hb1,hb2⟩:=Oc hpre
    have hble:=Yx (s.drop i) true
    simp only[dW]at hble
    refine⟨fun hn=> ?_,fun hn=> ?_⟩
    ·have hx:=KK _ hn
     simp only[dW]at hx
     refine⟨0,by omega,s.length,hb,fG _,by omega,?_⟩
     rw[Qe (n:=(s.length:Int) - i) (by omega) (by omega),Qe (by omega) (by omega)]
     have e2:(i:Int)+((s.length:Int) - i)=s.length:=by omega
     simp only[e2,true_and,List.drop_length,QG,fS]
     omega
    ·obtain⟨k,hk⟩:∃k:Nat,Lib.indexByte (s.drop i) 10=k:=⟨(Lib.indexByte (s.drop i) 10).toNat,by omega⟩
     have hx:=KJ _ k hk
     rw[lC]at hx
     rw[hk]at hb2
     refine⟨s.length - (i+k),by omega,i+k,by omega,by omega,rfl,?_⟩
     rw[hk,Qe (by omega) (by omega)]
     simp only[Int.natCast_add,true_and]
     omega
   |false=>
    simp only[hr,Zv,h0,h2,ZK,seval]
    refine JV (v:=u8 s[i]) (by simp [hlt]) ?_
    simp only[hr,Zv,h0,h2,ZK,seval]
    refine Q3 (RO G [32,9,13,10] s[i] A1) ?_
    simp only[hr,Zv,h0,h2,ZK,seval]
    have hone:=Lz (dP hlt) hpre
    refine⟨fun hn=> ?_,fun hn=> ?_⟩
    ·rw[(XF _).1 hn]at hone
     simp only[cB,if_false]at hone
     simp only[hpi,hone,fS,true_and]
    ·have hw:XY s[i]=true:=by
      cases hw:XY s[i]with
      |true=>rfl
      |false=>exact absurd ((XF _).2 hw) hn
     rw[hw,fC rfl]at hone
     refine⟨s.length - (i+1),by omega,i+1,by omega,by omega,rfl,?_⟩
     rw[Qe (by omega) (by omega)]
     simp only[Int.natCast_add,Int.cast_ofNat_Int,true_and]
     omega
  ·have:i=s.length:=by omega
   subst this
   simp only[List.drop_length,QG,fS]at hpi
   simp [hpi]
 rintro env ds A'' ⟨h0,h2,rfl,rfl⟩
 refine Qb (fun env ds A'=>env 0=.ptr r 0∧env 2=i64 p∧ds=[]∧A'=A''.upd r (some (Zv s p b l))) ?_ ?_
 ·simp only[hr,h0,h2,Zv,ZK,seval]
 rintro env ds A' ⟨h0,h2,rfl,rfl⟩
 refine Qb (fun env ds A'=>env 0=.ptr r 0∧env 2=i64 (p+Z3 (s.drop p))∧ds=[]∧(A'=A''.upd r (some (Zv s p b l))∨∃t,A''.upd r (some (Zv s p b l)) t=none∧A'=(A''.upd r (some (Zv s p b l))).upd t (some .tip))) ?_ ?_
 ·have hr':(A''.upd r (some (Zv s p b l))) r=some (Zv s p b l):=Q0 _ _ _
  generalize A''.upd r (some (Zv s p b l))=B at*
  have hps:p≤s.length:=by
   have:=Yx (s.drop b) false
   simp only[dW]at this
   omega
  simp only[hr',Zv,h0,h2,ZK,seval]
  refine⟨fun h=> ?_,fun h=> ?_⟩
  ·have hlt:p<s.length:=by omega
   refine JV (v:=u8 s[p]) (by simp [hlt]) ?_
   simp only[hr',Zv,h0,h2,ZK,seval]
   refine Q3 (f77 G s[p] B) ?_
   have hdp:s.drop p=s[p]::s.drop (p+1):=dP hlt
   cases hL:Yu s[p]with
   |true=>
    simp only[ZK,seval]
    refine Qt (fun n env ds A1=>∃i:Nat,p≤i∧i≤s.length∧n=s.length - i∧env 0=.ptr r 0∧env 2=i64 i∧ds=[]∧A1=B∧((s.drop p).take (i - p)).all Y3=true) (s.length - p)
     ⟨p,fG _,hps,rfl,by simp [JD,h0],by simp [JD,h2],rfl,rfl,by simp⟩ ?_
    rintro n env ds A1 ⟨i,hpi,his,rfl,h0,h2,rfl,rfl,hall⟩
    have htok:(∀c,(s.drop p)[i - p]? =some c→Y3 c=false)→Z3 (s.drop p)=i - p:=fun hst=>by
     have:=Ui (by simp;omega) hall hst
     simp only[Z3,hdp,hL,if_true]
     rw[←hdp];exact this
    simp only[hr',Zv,h0,h2,ZK,seval]
    refine⟨fun h=> ?_,fun h=> ?_⟩
    ·have hlt':i<s.length:=by omega
     refine JV (v:=u8 s[i]) (by simp [hlt']) ?_
     simp only[hr',Zv,h0,h2,ZK,seval]
     refine Q3 (f77 G s[i] A1) ?_
     have hgi:(s.drop p)[i - p]? =some s[i]:=by
      rw[List.getElem?_drop,show p+(i - p)=i from by omega];simp [hlt']
     have hgo:Y3 s[i]=true→∃m,m<s.length - i∧∃i_1:Nat,p≤i_1∧i_1≤s.length∧m=s.length - i_1∧i64 ((i:Int)+1)=i64 i_1∧(List.take (i_1 - p) (List.drop p s)).all Y3=true:=fun hc=>by
      refine⟨s.length - (i+1),by omega,i+1,by omega,by omega,rfl,by simp,?_⟩
      rw[show i+1 - p=(i - p)+1 from by omega]
      exact XG hall hgi hc
     have hin:Y3 s[i]=false→i64 i=i64 (p+Z3 (s.drop p)):=fun hc=>by
      rw[htok (fun c hc'=>by rw[hgi]at hc';simp only[cA]at hc';rw[←hc'];exact hc)]
      simp only[AV.raw.injEq,Value.int.injEq,true_and]
      omega
     cases hl:Yu s[i]with
     |true=>
      simp only[hr',Zv,h0,h2,ZK,seval]
      rw[Qe (by omega) (by omega)]
      exact hgo (by simp [Y3,hl])
     |false=>
      simp only[hr',Zv,h0,h2,ZK,seval]
      refine JV (v:=u8 s[i]) (by simp [hlt']) ?_
      simp only[hr',Zv,h0,h2,ZK,seval]
      refine Q3 (RN G s[i] A1) ?_
      cases hd:J7 s[i]with
      |true=>
       simp only[hr',Zv,h0,h2,ZK,seval]
       rw[Qe (by omega) (by omega)]
       exact hgo (by simp [Y3,hd])
      |false=>
       simp only[hr',Zv,h0,h2,ZK,seval]
       refine JV (v:=u8 s[i]) (by simp [hlt']) ?_
       simp only[hr',Zv,h0,h2,ZK,seval]
       have h95:((s[i].toNat:Int)==95)=(s[i]==95):=TZ s[i] 95
       refine⟨fun hc=> ?_,fun hc=> ?_⟩ <;> have hc:_=_:=h95.symm.trans (by first|exact beq_iff_eq.2 hc|exact beq_false_of_ne hc)
       ·rw[Qe (by omega) (by omega)]
        exact hgo (by simp [Y3,hc])
       ·simp only[hin (by simp [Y3,hl,hd,hc]),true_and,true_or,and_true]
    ·have:i=s.length:=by omega
     rw[htok (fun c hc=>by rw[fL (by simp;omega)]at hc;cases hc)]
     simp [this]
     omega
   |false=>
    simp only[ZK,seval]
    refine Q3 (RN G s[p] B) ?_
    cases hD:J7 s[p]with
    |true=>
     simp only[ZK,seval]
     refine Qt (fun n env ds A1=>∃i:Nat,p≤i∧i≤s.length∧n=s.length - i∧env 0=.ptr r 0∧env 2=i64 i∧ds=[]∧A1=B∧((s.drop p).take (i - p)).all J7=true) (s.length - p)
      ⟨p,fG _,hps,rfl,by simp [JD,h0],by simp [JD,h2],rfl,rfl,by simp⟩ ?_
     rintro n env ds A1 ⟨i,hpi,his,rfl,h0,h2,rfl,rfl,hall⟩
     have htok:(∀c,(s.drop p)[i - p]? =some c→J7 c=false)→Z3 (s.drop p)=i - p:=fun hst=>by
      have:=Ui (by simp;omega) hall hst
      simp only[Z3,hdp,hL,hD,if_true,cB,if_false]
      rw[←hdp];exact this
     simp only[hr',Zv,h0,h2,ZK,seval]
     refine⟨fun h=> ?_,fun h=> ?_⟩
     ·have hlt':i<s.length:=by omega
      refine JV (v:=u8 s[i]) (by simp [hlt']) ?_
      simp only[hr',Zv,h0,h2,ZK,seval]
      refine Q3 (RN G s[i] A1) ?_
      have hgi:(s.drop p)[i - p]? =some s[i]:=by
       rw[List.getElem?_drop,show p+(i - p)=i from by omega];simp [hlt']
      cases hd:J7 s[i]with
      |true=>
       simp only[hr',Zv,h0,h2,ZK,seval]
       rw[Qe (by omega) (by omega)]
       refine⟨s.length - (i+1),by omega,i+1,by omega,by omega,rfl,by simp,?_⟩
       rw[show i+1 - p=(i - p)+1 from by omega]
       exact XG hall hgi hd
      |false=>
       simp only[hr',Zv,h0,h2,ZK,seval]
       rw[htok (fun c hc'=>by rw[hgi]at hc';simp only[cA]at hc';rw[←hc'];exact hd)]
       simp only[AV.raw.injEq,Value.int.injEq,true_and,and_true,true_or]
       omega
     ·have:i=s.length:=by omega
      rw[htok (fun c hc=>by rw[fL (by simp;omega)]at hc;cases hc)]
      simp [this]
      omega
    |false=>
     have htok:Z3 (s.drop p)=if(s.drop p).take 2∈Yp then 2 else 1:=by
      simp only[Z3,hdp,hL,hD,cB,if_false]
     simp only[hr',Zv,h0,h2,ZK,seval]
     refine⟨fun h1=> ?_,fun h1=> ?_⟩
     ·rw[Qe (by omega) (by omega)]at h1
      refine QW (cs:=Yp.map .str) (by kernel_rfl) fun t ht=> ?_
      have hne:r≠t:=fun e=>by subst e;rw[hr']at ht;cases ht
      simp only[Q5 hne,hr',Zv,h0,h2,ZK,seval]
      rw[Qe (n:=(p:Int)+2) (by omega) (by omega)]
      refine⟨⟨by omega,by omega,by omega⟩,?_⟩
      have e1:List.take (((p:Int)+2).toNat - (p:Int).toNat) (List.drop (p:Int).toNat s)=(s.drop p).take 2:=by
       rw[show((p:Int)+2).toNat - (p:Int).toNat=2 from by omega];simp
      simp only[e1,ZK,seval]
      refine Qg (Qq.wk (.cons Jt (.cons (Wk.refl _) .nil)) (f79 G Yp ((s.drop p).take 2) (B.upd t (some .tip)) (by decide))) ?_
      rintro o A' ⟨rfl,rfl⟩
      by_cases hm:(s.drop p).take 2∈Yp
      ·simp only[fA hm]
       simp only[hr',Zv,h0,h2,ZK,seval]
       rw[Qe (by omega) (by omega),htok,fC hm]
       simp only[Int.cast_ofNat_Int,true_and]
       exact .inr ⟨t,ht,rfl⟩
      ·simp only[fB hm]
       simp only[hr',Zv,h0,h2,ZK,seval]
       rw[Qe (by omega) (by omega),htok,fD hm]
       simp only[Int.cast_ofNat_Int,true_and]
       exact .inr ⟨t,ht,rfl⟩
     ·rw[Qe (by omega) (by omega)]at h1
      have hm:(s.drop p).take 2∉Yp:=fun hm=>by
       have hl1:((s.drop p).take 2).length≤1:=by simp;omega
       have hl2:∀x∈Yp,x.length=2:=by decide
       have:=hl2 _ hm
       omega
      rw[Qe (by omega) (by omega),htok,fD hm]
      simp
  ·have:p=s.length:=by omega
   simp [this,Z3]
 rintro env ds A' ⟨h0,h2,rfl,rfl|⟨t,ht,rfl⟩⟩
 ·simp only[Q0,h0,h2,Zv,ZK,seval]
  exact Qv rfl (VU.refl _)
 ·have hne:r≠t:=fun e=>by subst e;simp at ht
  simp only[Q0,Q5 hne,h0,h2,Zv,ZK,seval]
  have ht':A'' t=none:=by rw[Q5 (Ne.symm hne)]at ht;exact ht
  have hcomm:∀X Y:Option AObj,((A''.upd r X).upd t (some .tip)).upd r Y=(A''.upd r Y).upd t (some .tip):=fun X Y=>by
   funext k
   simp only[Q2.upd]
   by_cases h1:k=r <;> by_cases h2:k=t <;> simp_all
  rw[hcomm]
  exact Qv rfl (RS (by rw[Q5 (Ne.symm hne)];exact ht') (by simp))
end
def cur (u:Bs):Bs:=u.take (Z3 u)
def skip (u:Bs):Bs:=u.drop (QG false u)
def adv (u:Bs):Bs:=skip (u.drop (Z3 u))
inductive Res (α:Type)where
 |ok (a:α) (u:Bs)
 |bad (u:Bs)
def Res.bind {α β:Type}:Res α→(α→Bs→Res β)→Res β
 | .ok a u,k=>k a u
 | .bad u,_=>.bad u
@[simp] theorem Q7 {α β:Type} (a:α) (u:Bs) (k:α→Bs→Res β):(Res.ok a u).bind k=k a u:=rfl
@[simp] theorem H0 {α β:Type} (u:Bs) (k:α→Bs→Res β):(Res.bad u:Res α).bind k=.bad u:=rfl
def Qk (w:Bs)(u:Bs):Res Unit:=if cur u=w then .ok () (adv u)else .bad u
def Z8 (u:Bs):Res Bs:=if Qf (cur u)then .ok (cur u) (adv u)else .bad u
def Vh (l:Bs):Nat:=l.foldl (fun n c=>10*n+(c.toNat - 48)) 0
def JK (u:Bs):Bool:=match u with
 |[]=>false
 |c::_=>J7 c
def JT (neg:Bool)(u:Bs):Res Int:=
 if JK u then
  if 2147483648<Vh (cur u)∨(1<(cur u).length∧(cur u).head?=some 48)∨(neg=true∧Vh (cur u)=0)then .bad u
  else .ok (if neg then -(Vh (cur u):Int)else Vh (cur u)) (adv u)
 else .bad u
def YC:Bs:=[45]
def JE (u:Bs):Res Int:=if cur u=YC then JT true (adv u)else JT false u
def ZB:Nat→List (Bs×Int)
 |1=>[([124,124],17)]
 |2=>[([38,38],16)]
 |3=>[([60],10),([60,61],11),([61,61],12),([33,61],13),([62,61],14),([62],15)]
 |4=>[([43],5),([45],6)]
 |5=>[([42],7),([47],8),([37],9)]
 |_=>[]
def JB (n:Nat)(t:Bs):Option Int:=(ZB n).lookup t
def ZZ {α:Type}(sep:Bs)(one:Bs→Res α):Nat→List α→Bs→Res (List α)
 |0,_,u=>.bad u
 |f+1,l,u=>if cur u=sep then(one (adv u)).bind fun x u1=>ZZ sep one f (l++[x]) u1 else .ok l u
def ZO {α:Type}(sep:Bs)(one:Bs→Res α)(f:Nat)(u:Bs):Res (List α):=(one u).bind fun x u1=>ZZ sep one f [x] u1
def U7 {α:Type}(one:Bs→Res α)(f:Nat)(u:Bs):Res (List α):=
 if cur u=[41]then .ok [] (adv u)else(ZO [44] one f u).bind fun l u1=>(Qk [41] u1).bind fun _ u2=>.ok l u2
def Zy {α:Type}(one:Bs→Res α):Nat→List α→Bs→Res (List α)
 |0,_,u=>.bad u
 |f+1,l,u=>if cur u=[125]then .ok l (adv u)else(one u).bind fun s u1=>Zy one f (l++[s]) u1
mutual
def QZ:Nat→Bs→Res Exp
 |0,u=>.bad u
 |f+1,u=>(Jx f 1 u).bind fun x u1=>if cur u1=[63]then
  (QZ f (adv u1)).bind fun a u2=>(Qk [58] u2).bind fun _ u3=>(QZ f u3).bind fun b u4=>.ok (.mk 18 [] 0 [x,a,b]) u4
  else .ok x u1
def Jx:Nat→Nat→Bs→Res Exp
 |0,_,u=>.bad u
 |f+1,n,u=>if n>5 then Zq f u else(Jx f (n+1) u).bind fun x u1=>ZN f n x u1
def ZN:Nat→Nat→Exp→Bs→Res Exp
 |0,_,_,u=>.bad u
 |f+1,n,x,u=>match JB n (cur u)with
  |none=>.ok x u
  |some k=>(Jx f (n+1) (adv u)).bind fun y u1=>if n=3 then .ok (.mk k [] 0 [x,y]) u1 else ZN f n (.mk k [] 0 [x,y]) u1
def Zq:Nat→Bs→Res Exp
 |0,u=>.bad u
 |f+1,u=>if cur u=[33]then(Zq f (adv u)).bind fun x u1=>.ok (.mk 4 [] 0 [x]) u1
  else if cur u=YC then
   if JK (adv u)then(JT true (adv u)).bind fun n u1=>.ok (.mk 1 [] n []) u1
   else(Zq f (adv u)).bind fun x u1=>.ok (.mk 3 [] 0 [x]) u1
  else JU f u
def JU:Nat→Bs→Res Exp
 |0,u=>.bad u
 |f+1,u=>if JK u then(JT false u).bind fun n u1=>.ok (.mk 1 [] n []) u1
  else if cur u=[40]then(QZ f (adv u)).bind fun x u1=>(Qk [41] u1).bind fun _ u2=>.ok x u2
  else(Z8 u).bind fun s u1=>if cur u1=[40]then(U7 (fun u=>QZ f u) f (adv u1)).bind fun l u2=>.ok (.mk 19 s 0 l) u2 else .ok (.mk 2 s 0 []) u1
end
def JS:Bs:=[105,102]
def YB:Bs:=[119,104,105,108,101]
def VJ:Bs:=[101,108,115,101]
def VP:Bs:=[114,101,116,117,114,110]
def Vx:Bs:=[118,97,114]
def VI:Bs:=[102,117,110,99]
mutual
def Zz:Nat→Bs→Res (List Stmt)
 |0,u=>.bad u
 |f+1,u=>(Qk [123] u).bind fun _ u1=>Zy (fun u=>ZE f u) f [] u1
def ZE:Nat→Bs→Res Stmt
 |0,u=>.bad u
 |f+1,u=>
  if cur u=JS then(Qk [40] (adv u)).bind fun _ u1=>(QZ f u1).bind fun x u2=>(Qk [41] u2).bind fun _ u3=>(Zz f u3).bind fun b u4=>
   if cur u4=VJ then(Zz f (adv u4)).bind fun e u5=>.ok (.mk 3 [] x b e) u5 else .ok (.mk 3 [] x b []) u4
  else if cur u=YB then(Qk [40] (adv u)).bind fun _ u1=>(QZ f u1).bind fun x u2=>(Qk [41] u2).bind fun _ u3=>(Zz f u3).bind fun b u4=>.ok (.mk 4 [] x b []) u4
  else if cur u=VP then(QZ f (adv u)).bind fun x u1=>(Qk [59] u1).bind fun _ u2=>.ok (.mk 5 [] x [] []) u2
  else if cur u=Vx then(Z8 (adv u)).bind fun n u1=>(Qk [61] u1).bind fun _ u2=>(QZ f u2).bind fun x u3=>(Qk [59] u3).bind fun _ u4=>.ok (.mk 1 n x [] []) u4
  else(Z8 u).bind fun n u1=>(Qk [61] u1).bind fun _ u2=>(QZ f u2).bind fun x u3=>(Qk [59] u3).bind fun _ u4=>.ok (.mk 2 n x [] []) u4
end
def V0 (f:Nat)(u:Bs):Res Func:=
 (Qk VI u).bind fun _ u1=>(Z8 u1).bind fun n u2=>(Qk [40] u2).bind fun _ u3=>(U7 Z8 f u3).bind fun ps u4=>(Zz f u4).bind fun b u5=>.ok ⟨n,ps,b⟩ u5
def W8:Bs:=[109,111,100,101,108]
def Kw:Bs:=[99,108,111,99,107]
def M1:Bs:=[105,110]
def ZX:Bs:=[99,104,97,110]
def Jm:Bs:=[98,114,111,97,100,99,97,115,116]
def Zl:Bs:=[117,114,103,101,110,116]
def YO:Bs:=[99,111,109,109,105,116,116,101,100]
def Jq:Bs:=[112,114,111,99,101,115,115]
def XA:Bs:=[105,110,105,116]
def YR:Bs:=[108,111,99]
def Uo:Bs:=[105,110,118]
def YX:Bs:=[114,97,116,101]
def Yb:Bs:=[101,100,103,101]
def YL:Bs:=[119,104,101,110]
def Yj:Bs:=[115,121,110,99]
def U2:Bs:=[100,111]
def Jg:Bs:=[114,101,115,101,116]
def JH:Bs:=[99,111,115,116]
def JC:Bs:=[107,105,110,100]
def Jd {α:Type}(w:Bs)(d:α)(p:Bs→Res α)(u:Bs):Res α:=if cur u=w then p (adv u)else .ok d u
def W6 (u:Bs):Res (List Test):=(Z8 u).bind fun n u1=>
 if cur u1=[60]then(JE (adv u1)).bind fun c u2=>.ok [⟨n,false,true,c⟩] u2
 else if cur u1=[60,61]then(JE (adv u1)).bind fun c u2=>.ok [⟨n,false,false,c⟩] u2
 else if cur u1=[62]then(JE (adv u1)).bind fun c u2=>.ok [⟨n,true,true,c⟩] u2
 else if cur u1=[62,61]then(JE (adv u1)).bind fun c u2=>.ok [⟨n,true,false,c⟩] u2
 else if cur u1=[61,61]then(JE (adv u1)).bind fun c u2=>.ok [⟨n,false,false,c⟩,⟨n,true,false,c⟩] u2
 else .bad u1
def X0 (f:Nat)(u:Bs):Res (List Test):=(ZO [38,38] W6 f u).bind fun l u1=>.ok l.flatten u1
def VR (f:Nat)(u:Bs):Res Assign:=(Z8 u).bind fun n u1=>(Qk [61] u1).bind fun _ u2=>(QZ f u2).bind fun x u3=>.ok ⟨n,x⟩ u3
def UF (u:Bs):Res Clear:=(Z8 u).bind fun n u1=>(Qk [61] u1).bind fun _ u2=>(JE u2).bind fun x u3=>.ok ⟨n,x⟩ u3
def JJ:Exp:=.mk 0 [] 0 []
def Yh (u:Bs):Res Int:=if cur u=Zl then .ok 1 (adv u)else if cur u=YO then .ok 2 (adv u)else .ok 0 u
def Ks (f:Nat)(u:Bs):Res Loc:=(Z8 u).bind fun n u1=>(Yh u1).bind fun k u2=>(Jd Uo [] (X0 f) u2).bind fun i u3=>(Jd YX 0 JE u3).bind fun r u4=>
 (Qk [59] u4).bind fun _ u5=>.ok ⟨n,k,i,r⟩ u5
def WC (u:Bs):Res (Bs×Bool):=(Z8 u).bind fun n u1=>if cur u1=[33]then .ok (n,true) (adv u1)else(Qk [63] u1).bind fun _ u2=>.ok (n,false) u2
def XB (f:Nat)(u:Bs):Res Edge:=
 (Z8 u).bind fun a u1=>(Qk [45,62] u1).bind fun _ u2=>(Z8 u2).bind fun b u3=>
 (Jd YL [] (X0 f) u3).bind fun ts u4=>(Jd JS JJ (QZ f) u4).bind fun c u5=>
 (Jd Yj ([],false) WC u5).bind fun ch u6=>(Jd U2 [] (ZO [44] (VR f) f) u6).bind fun ss u7=>
 (Jd Jg [] (ZO [44] UF f) u7).bind fun cs u8=>(Jd JH 0 JE u8).bind fun co u9=>
 (Jd JC 0 JE u9).bind fun k u10=>(Qk [59] u10).bind fun _ u11=>.ok ⟨a,b,ts,c,ch.1,ch.2,ss,cs,co,k⟩ u11
def JI {α:Type}(w:Bs)(one:Bs→Res α):Nat→List α→Bs→Res (List α)
 |0,_,u=>.bad u
 |f+1,l,u=>if cur u=w then(one (adv u)).bind fun x u1=>JI w one f (l++[x]) u1 else .ok l u
def W7 (f:Nat)(u:Bs):Res Proc:=
 (Z8 u).bind fun n u1=>(Qk XA u1).bind fun _ u2=>(Z8 u2).bind fun i u3=>(Qk [123] u3).bind fun _ u4=>
 (JI YR (Ks f) f [] u4).bind fun ls u5=>(JI Yb (XB f) f [] u5).bind fun es u6=>(Qk [125] u6).bind fun _ u7=>.ok ⟨n,i,ls,es⟩ u7
def IC (u:Bs):Res Var:=
 (Z8 u).bind fun n u1=>(Qk M1 u1).bind fun _ u2=>(JE u2).bind fun lo u3=>(Qk [46,46] u3).bind fun _ u4=>(JE u4).bind fun hi u5=>(Qk [61] u5).bind fun _ u6=>(JE u6).bind fun i u7=>.ok ⟨n,lo,hi,i⟩ u7
def ZF (f:Nat)(b g:Bool)(u:Bs):Res (List Chan):=(ZO [44] Z8 f u).bind fun l u1=>.ok (l.map fun n=>⟨n,b,g⟩) u1
structure Decls where
 clocks:List Bs
 vars:List Var
 chans:List Chan
def Decls.add (a b:Decls):Decls:=⟨a.clocks++b.clocks,a.vars++b.vars,a.chans++b.chans⟩
def Yz (f:Nat)(u:Bs):Option (Res Decls):=
 if cur u=Kw then some ((ZO [44] Z8 f (adv u)).bind fun l u1=>.ok ⟨l,[],[]⟩ u1)
 else if cur u=Vx then some ((IC (adv u)).bind fun v u1=>.ok ⟨[],[v],[]⟩ u1)
 else if cur u=ZX then some ((ZF f false false (adv u)).bind fun l u1=>.ok ⟨[],[],l⟩ u1)
 else if cur u=Zl then some ((Qk ZX (adv u)).bind fun _ u1=>(ZF f false true u1).bind fun l u2=>.ok ⟨[],[],l⟩ u2)
 else if cur u=Jm then some (
  if cur (adv u)=Zl then(Qk ZX (adv (adv u))).bind fun _ u1=>(ZF f true true u1).bind fun l u2=>.ok ⟨[],[],l⟩ u2
  else(Qk ZX (adv u)).bind fun _ u1=>(ZF f true false u1).bind fun l u2=>.ok ⟨[],[],l⟩ u2)
 else none
def J9 (N:Nat):Nat→Decls→Bs→Res Decls
 |0,_,u=>.bad u
 |f+1,d,u=>match Yz N u with
  |none=>.ok d u
  |some r=>r.bind fun x u1=>(Qk [59] u1).bind fun _ u2=>J9 N f (d.add x) u2
def U9 (N:Nat):Nat→List Func→Bs→Res (List Func)
 |0,_,u=>.bad u
 |f+1,l,u=>if cur u=VI then(V0 N u).bind fun x u1=>U9 N f (l++[x]) u1 else .ok l u
def WQ (N:Nat)(u:Bs):Res Model:=
 (Qk W8 u).bind fun _ u1=>(Z8 u1).bind fun n u2=>(Qk [59] u2).bind fun _ u3=>(J9 N N ⟨[],[],[]⟩ u3).bind fun d u4=>
 (U9 N N [] u4).bind fun fs u5=>(JI Jq (W7 N) N [] u5).bind fun ps u6=>if u6=[]then .ok ⟨n,d.clocks,d.vars,d.chans,fs,ps⟩ u6 else .bad u6
def ZQ (n:Int):Bool:=decide (-2147483648≤n∧n≤2147483648)
def Zu (k:Int):Option (Option Nat):=
 if k=1∨k=2 then some (some 0)else if k=3∨k=4 then some (some 1)else if 5≤k∧k≤17 then some (some 2)else if k=18 then some (some 3)else if k=19 then some none else none
def Vf (k:Int)(n:Bs)(i:Int)(many:Nat):Bool:=
 (match Zu k with
  |none=>false
  |some none=>true
  |some (some m)=>many==m)&&
 (i==0||k==1)&&ZQ i&&(if k=2∨k=19 then Qf n else n.isEmpty)
mutual
def JA:Exp→Bool
 | .mk k n i xs=>Vf k n i xs.length&&IA xs
def IA:List Exp→Bool
 |[]=>true
 |x::xs=>JA x&&IA xs
end
def Wm (k:Int)(n:Bs)(b e:Nat):Bool:=
 decide (1≤k∧k≤5)&&(if k=1∨k=2 then Qf n else n.isEmpty)&&(b==0||k==3||k==4)&&(e==0||k==3)
mutual
def Uj:Stmt→Bool
 | .mk k n v b e=>Wm k n b.length e.length&&JA v&&US b&&US e
def US:List Stmt→Bool
 |[]=>true
 |x::xs=>Uj x&&US xs
end
structure Siz where
 nodes:Nat
 depth:Nat
 wide:Bool
 deriving DecidableEq
def Siz.inn (m n:Siz):Siz:=⟨m.nodes+n.nodes,max m.depth (1+n.depth),m.wide||n.wide⟩
def Siz.small (m:Siz):Bool:=decide (m.nodes≤400)&&decide (m.depth≤30)&& !m.wide
mutual
def ZH:Exp→Siz
 | .mk _ _ _ xs=>Jw ⟨1,1,decide (xs.length>4)⟩ xs
def Jw:Siz→List Exp→Siz
 |m,[]=>m
 |m,x::xs=>Jw (m.inn (ZH x)) xs
end
mutual
def Jc:Stmt→Siz
 | .mk _ _ v b e=>Z7 (Z7 (Siz.inn ⟨1,1,false⟩ (ZH v)) b) e
def Z7:Siz→List Stmt→Siz
 |m,[]=>m
 |m,x::xs=>Z7 (m.inn (Jc x)) xs
end
def J1 (x:Exp):Bool:=(ZH x).small
def Siz.bes (m n:Siz):Siz:=⟨m.nodes+n.nodes,max m.depth n.depth,m.wide||n.wide⟩
def Zt (m:Siz)(l:List Stmt):Siz:=l.foldl (fun m s=>m.bes (Jc s)) m
def ZY (m:Siz)(l:List Func):Siz:=l.foldl (fun m f=>Zt m f.body) m
def JW (l:List Func):Bool:=l.all (fun f=>decide (f.params.length≤4))&&(ZY ⟨0,0,false⟩ l).small&&decide (l.length≤8)
def Um (l:List Func):Bool:=l.all fun f=>Qf f.name&&f.params.all Qf&&US f.body
def Gy:Int:=2
def SV:Int:=3
def isNone (x:Exp):Bool:=x.kind==0&&x.name.isEmpty&&x.int==0&&x.args.isEmpty
def Vj (t:Test):Bool:=Qf t.clock&&ZQ t.c
def Ys (x:Edge):Bool:=
 Qf x.src&&Qf x.dst&&x.tests.all Vj&&(isNone x.cond||JA x.cond)&&(!x.chan.isEmpty|| !x.send)&&(x.chan.isEmpty||Qf x.chan)&&
 x.sets.all (fun a=>Qf a.name&&JA a.val)&&x.clears.all (fun c=>Qf c.clock&&ZQ c.tv)&&ZQ x.cost&&ZQ x.kind
def VG (l:Loc):Bool:=Qf l.name&&decide (0≤l.kind∧l.kind≤2)&&l.inv.all Vj&&ZQ l.rate
def YA (p:Proc):Bool:=Qf p.name&&Qf p.init&&p.locs.all VG&&p.edges.all Ys
def Oe (c:Chan):Bool:=Qf c.name
def XV (v:Var):Bool:=Qf v.name&&(ZQ v.low&&(ZQ v.high&&ZQ v.init))
def WK (m:Model):Bool:=
 Qf m.name&&m.clocks.all Qf&&m.vars.all XV&&m.chans.all Oe&&Um m.funcs&&m.procs.all YA
def Xi (x:Edge):Bool:=decide (x.tests.length≤16)&&(isNone x.cond||J1 x.cond)&&decide (x.sets.length≤16)&&x.sets.all (fun a=>J1 a.val)&&decide (x.clears.length≤16)
def XO (p:Proc):Bool:=decide (p.locs.length≤20)&&decide (p.edges.length≤60)&&p.locs.all (fun l=>decide (l.inv.length≤16))&&p.edges.all Xi
def UT (m:Model):Bool:=decide (m.clocks.length≤8)&&decide (m.vars.length≤16)&&decide (m.chans.length≤16)&&JW m.funcs&&decide (m.procs.length≤6)&&m.procs.all XO
def VV (m:Model):Int:=if WK m then(if UT m then 0 else SV)else Gy
structure At (s u:Bs):Prop where
 suf:u<:+s
 nrm:QG false u=0
theorem At.le {s u:Bs}(h:At s u):u.length≤s.length:=h.suf.length_le
theorem At.drop {s u:Bs}(h:At s u):s.drop (s.length - u.length)=u:=by
 obtain⟨t,rfl⟩:=h.suf
 rw[cC,Nat.add_sub_cancel]
 simp
theorem HH (u:Bs):skip u<:+u:=List.drop_suffix _ _
theorem adv_suf (u:Bs):adv u<:+u:=(HH _).trans (List.drop_suffix _ _)
theorem Xz:∀(u:Bs) (b:Bool),QG false (u.drop (QG b u))=0
 |[],b=>by cases b <;> simp [QG]
 |c::r,true=>by
  simp only[QG]
  split
  ·rename_i h
   rw[show 1+QG false r=QG false r+1 from by omega,List.drop_succ_cons]
   exact Xz r false
  ·rw[show 1+QG true r=QG true r+1 from by omega,List.drop_succ_cons]
   exact Xz r true
 |c::r,false=>by
  by_cases h1:(c==47&&r.head?==some 47)=true
  ·have e:QG false (c::r)=QG true r+1:=by simp only[QG,h1,if_true];omega
   rw[e,List.drop_succ_cons]
   exact Xz r true
  ·by_cases h2:XY c=true
   ·have e:QG false (c::r)=QG false r+1:=by simp only[QG,h1,h2,if_true,cB,if_false];omega
    rw[e,List.drop_succ_cons]
    exact Xz r false
   ·have e:QG false (c::r)=0:=by simp only[QG,h1,h2,cB,if_false]
    rw[e,List.drop_zero];exact e
theorem At.skip {s u:Bs}(h:u<:+s):At s (skip u):=⟨(HH u).trans h,Xz u false⟩
theorem At.adv {s u:Bs}(h:At s u):At s (adv u):=At.skip ((List.drop_suffix _ _).trans h.suf)
theorem At.nil (s:Bs):At s []:=⟨List.nil_suffix,rfl⟩
theorem Tr {u:Bs}(h:u≠[]):0<Z3 u:=by
 unfold Z3
 split
 ·exact absurd rfl h
 ·rename_i c r
  split
  ·rename_i hc
   rw[List.takeWhile_cons_of_pos (by simp [Y3,hc])];simp
  ·split
   ·rename_i hc
    rw[List.takeWhile_cons_of_pos hc];simp
   ·split <;> omega
theorem Ni {u:Bs}(h:u≠[]):(adv u).length<u.length:=by
 have h1:=(HH (u.drop (Z3 u))).length_le
 have h2:=Tr h
 have h3:0<u.length:=List.length_pos_iff.2 h
 simp only[adv]
 simp only[dW]at h1
 omega
theorem MT {u w:Bs}(h:cur u=w)(hw:w≠[]):(adv u).length<u.length:=Ni fun e=>by
 subst e;exact hw (by rw[←h];rfl)
def rd (s u:Bs)(lo:Bool):AObj:=Zv s (s.length - u.length) (s.length - u.length+Z3 u) lo
section
variable (G:Nat→Option (List AV))
theorem KM {A:Q2}{r:Nat}{s u:Bs}{lo:Bool}(hr:A r=some (rd s u lo))(hu:At s u):QB Tryz.prog G 83 [.ptr r 0] A (.str (cur u)) A:=by
 have h1:=H5 u
 have h2:=hu.le
 have:=f83 G hr (by omega) (by omega)
 rwa [hu.drop,Nat.add_sub_cancel_left]at this
theorem XX {A:Q2}{r:Nat}{s u:Bs}{lo:Bool}(hr:A r=some (rd s u lo))(hu:At s u)(hs:s.length<2^62):QB Tryz.prog G 23 [.ptr r 0] A ZD (A.upd r (some (rd s (adv u) lo))):=by
 have h1:=H5 u
 have h2:=hu.le
 have e1:s.drop (s.length - u.length+Z3 u)=u.drop (Z3 u):=by rw[←lC,hu.drop]
 have h3:=Yx (u.drop (Z3 u)) false
 simp only[dW]at h3
 have e2:s.length - (adv u).length=s.length - u.length+Z3 u+QG false (u.drop (Z3 u)):=by
  simp only[adv,skip,dW];omega
 have:=f23 G hr (by omega) hs _ rfl
 rw[e1,←lC,e1]at this
 have e3:rd s (adv u) lo=Zv s (s.length - u.length+Z3 u+QG false (u.drop (Z3 u))) (s.length - u.length+Z3 u+QG false (u.drop (Z3 u))+Z3 (List.drop (QG false (u.drop (Z3 u))) (u.drop (Z3 u)))) lo:=by
  simp only[rd,e2];rfl
 rw[e3];exact this
theorem T5 {A:Q2}{r:Nat}{s u w:Bs}{lo:Bool}(hr:A r=some (rd s u lo))(hu:At s u)(hs:s.length<2^62):
 QB Tryz.prog G 87 [.ptr r 0,.str w] A (bo (decide (cur u=w))) (if cur u=w then A.upd r (some (rd s (adv u) lo))else A):=by
 refine Q4 l87 (fE rfl) ?_
 simp only[C87,Jb,Ja,Vb,Vd,Vc,Qp,Ql,reduceIte,reduceCtorEq,Nat.reduceEqDiff,Nat.reduceAdd,Nat.reduceMul,Nat.reduceLeDiff,Nat.reduceSub,Int.reduceLE,Int.reduceLT,Int.reduceToNat,cA,cB,true_and,and_true,Z5]
 refine Q3 (KM G hr hu) ?_
 simp only[Jb,Ja,Vb,Vd,Vc,Qp,Ql,reduceIte,reduceCtorEq,Nat.reduceEqDiff,Nat.reduceAdd,Nat.reduceMul,Nat.reduceLeDiff,Nat.reduceSub,Int.reduceLE,Int.reduceLT,Int.reduceToNat,cA,cB,true_and,and_true,Z5]
 refine⟨fun h=> ?_,fun h=> ?_⟩
 ·refine Q3 (XX G hr hu hs) ?_
  simp only[Jb,Ja,Vb,Vd,Vc,Qp,Ql,reduceIte,reduceCtorEq,Nat.reduceEqDiff,Nat.reduceAdd,Nat.reduceMul,Nat.reduceLeDiff,Nat.reduceSub,Int.reduceLE,Int.reduceLT,Int.reduceToNat,cA,cB,true_and,and_true,Z5]
  rw[fC h,fA h]
  exact Qv rfl (VU.refl _)
 ·rw[fD h,fB h]
  exact Qv rfl (VU.refl _)
end
def U8 (t:TypeId)(s u:Bs):AV:=.iface t (.agg [i64 (s.length - u.length:Nat)])
def Jj {α:Type}(r:Nat)(s:Bs)(A:Q2)(lo:Bool)(big:α→Bool)(enc:α→AV):Res α→Out→Q2→Prop
 | .ok a u,o,A'=>o=.ret (enc a)∧A'=A.upd r (some (rd s u (lo||big a)))
 | .bad u,o,A'=>o=.pan (U8 59 s u)∧A'=A.upd r none
def Zm {α:Type}:α→Bool:=fun _=>false
theorem Xs {A B:Q2}(h:∀k,B k=A k∨B k=none∧∀es,A k=some (.mp es)→∀j l e,B j≠some (.mit (some k) l e)):VU A B:=
 RR (fun k=>(h k).elim .inr fun h=>.inl h.1) fun j m l e hj hb es he=>by
  rcases h m with h1|h1
  ·rw[hb,he]at h1;cases h1
  ·exact h1.2 es he j l e hj
def QK (r:Nat)(A A':Q2):Prop:=∀k,k≠r→A' k=A k∨A k=none∧∀es,A' k=some (.mp es)→∀j l e,A j=some (.mit (some k) l e)→j=r
theorem QK.refl (r:Nat)(A:Q2):QK r A A:=fun _ _=>.inl rfl
theorem QK.at {r:Nat}{A A':Q2}(h:QK r A A')(x:Option AObj):QK r A (A'.upd r x):=fun k hk=>by rw[Q5 hk];exact h k hk
theorem QK.gone {r:Nat}{A A':Q2}(h:QK r A A'){t:Nat}(hr:t≠r)(ht:A' t=none):A t=none:=by
 rcases h t hr with h1|h1
 ·rw[←h1,ht]
 ·exact h1.1
theorem QK.keep {r:Nat}{A A':Q2}(h:QK r A A'){k:Nat}{o:AObj}(hk:k≠r)(ho:A k=some o):A' k=some o:=by
 rcases h k hk with h1|h1
 ·rw[h1,ho]
 ·rw[h1.1]at ho;cases ho
theorem QK.trans {r:Nat}{A B C:Q2}(h:QK r A B)(k:QK r B C):QK r A C:=fun j hj=>by
 rcases h j hj with h1|h1 <;> rcases k j hj with h2|h2
 ·exact .inl (h2.trans h1)
 ·refine .inr ⟨h1▸h2.1,fun es he i l e hi=> ?_⟩
  by_cases hir:i=r
  ·exact hir
  ·exact h2.2 es he i l e (h.keep hir hi)
 ·exact .inr ⟨h1.1,fun es he=>h1.2 es (by rw[←h2];exact he)⟩
 ·refine .inr ⟨h1.1,fun es he i l e hi=> ?_⟩
  by_cases hir:i=r
  ·exact hir
  ·exact h2.2 es he i l e (h.keep hir hi)
theorem QK.set {r:Nat}{A A':Q2}(h:QK r A A'){t:Nat}(ht:A t=none){o:Option AObj}(ho:∀es,o≠some (.mp es)):QK r A (A'.upd t o):=fun k hk=>by
 by_cases e:k=t
 ·subst e;rw[Q0];exact .inr ⟨ht,fun es he=>absurd he (ho es)⟩
 ·rw[Q5 e];exact h k hk
theorem QK.mp {r:Nat}{A A':Q2}(h:QK r A A'){t:Nat}(ht:A t=none)(hi:∀j l e,A j=some (.mit (some t) l e)→j=r)(o:Option AObj):QK r A (A'.upd t o):=fun k hk=>by
 by_cases e:k=t
 ·subst e;exact .inr ⟨ht,fun _ _=>hi⟩
 ·rw[Q5 e];exact h k hk
theorem QK.tip {r:Nat}{A A':Q2}(h:QK r A A'){t:Nat}(hr:t≠r)(ht:A' t=none):QK r A (A'.upd t (some .tip)):=h.set (h.gone hr ht) (by simp)
theorem QK.wk {r:Nat}{A A':Q2}(h:QK r A A'){x:AObj}(hx:A' r=some x)(hm:∀m l e,x≠ .mit m l e):VU A' (A.upd r (some x)):=Xs fun k=>by
 by_cases e:k=r
 ·subst e;rw[Q0,hx];exact .inl rfl
 ·rw[Q5 e]
  rcases h k e with h1|h1
  ·exact .inl h1.symm
  ·refine .inr ⟨h1.1,fun es he j l e' hj=> ?_⟩
   by_cases hjr:j=r
   ·subst hjr;rw[Q0]at hj;simp only[cA]at hj;exact hm _ _ _ hj
   ·rw[Q5 hjr]at hj;exact hjr (h1.2 es he j l e' hj)
theorem QK.wk0 {r:Nat}{A A':Q2}(h:QK r A A'):VU (A'.upd r none) (A.upd r none):=Xs fun k=>by
 by_cases e:k=r
 ·subst e;rw[Q0,Q0];exact .inl rfl
 ·rw[Q5 e,Q5 e]
  rcases h k e with h1|h1
  ·exact .inl h1.symm
  ·refine .inr ⟨h1.1,fun es he j l e' hj=> ?_⟩
   by_cases hjr:j=r
   ·subst hjr;rw[Q0]at hj;cases hj
   ·rw[Q5 hjr]at hj;exact hjr (h1.2 es he j l e' hj)
theorem Q9 {A:Q2}{r t:Nat}{x:AObj}(h:(A.upd r (some x)) t=none):t≠r∧A t=none:=by
 by_cases e:t=r
 ·subst e;simp at h
 ·rw[Q5 e]at h;exact⟨e,h⟩
theorem Q6 {A:Q2}{r t:Nat}{x:AObj}(hr:A r=some x)(ht:A t=none):r≠t:=fun e=>by subst e;rw[hr]at ht;cases ht
section
variable {P:Program}{G:Nat→Option (List AV)}{α β:Type}{f:FuncId}{first args cap:List AV}{A A0:Q2}{r:Nat}{s:Bs}{lo lo0:Bool}{big:α→Bool}{big0:β→Bool}{enc:α→AV}{enc0:β→AV}{res:List LRes}
 {d:Option Nat}{l:List LInstr}{st:List Fr}{env:Qn}
theorem YG {R:Res α}{k:α→Bs→Res β}(h:Qq P G f (first++args++cap) A (Jj r s A lo big enc R))(hw:VU (A.upd r none) (A0.upd r none))
 (hok:∀a u,R=.ok a u→(Cx.of P G false res (Jj r s A0 lo0 big0 enc0 (k a u))).ops l st (putD env d (enc a)) [] (A.upd r (some (rd s u (lo||big a))))):
 (Cx.of P G false res (Jj r s A0 lo0 big0 enc0 (R.bind k))).call (.func (.func f) first cap) args d l st env [] A:=by
 cases R with
 |ok a u=>exact Qg h fun o A' hk=>by obtain⟨rfl,rfl⟩:=hk;exact hok a u rfl
 |bad u=>
  refine Qg h fun o A' hk=> ?_
  obtain⟨rfl,rfl⟩:=hk
  show(Cx.of P G false res (Jj r s A0 lo0 big0 enc0 (.bad u))).X (Yq _ env) [] (U8 59 s u) (A.upd r none)
  rw[Xt]
  exact⟨_,hw,rfl,rfl⟩
theorem Ka {v:AV}{a:β}{u:Bs}(h:Wk v (enc0 a))(hA:VU A (A0.upd r (some (rd s u (lo0||big0 a))))):U1 (some v) (Jj r s A0 lo0 big0 enc0 (.ok a u)) A:=
 J2 h hA ⟨rfl,rfl⟩
end
theorem Qo {α:Type}{lo:Bool}{a:α}:(lo||Zm a)=lo:=by simp [Zm]
section
variable (G:Nat→Option (List AV))
theorem PI {A:Q2}{r:Nat}{s u:Bs}{lo:Bool}{α:Type}{lo0:Bool}{big:α→Bool}{enc:α→AV}(hr:A r=some (rd s u lo)):Qq Tryz.prog G 89 [.ptr r 0] A (Jj r s A lo0 big enc (.bad u)):=by
 refine Q4 l89 (fE rfl) ?_
 simp only[C89,hr,rd,Zv,Jb,Ja,Vb,Vd,Vc,Qp,Ql,reduceIte,reduceCtorEq,Nat.reduceEqDiff,Nat.reduceAdd,Nat.reduceMul,Nat.reduceLeDiff,Nat.reduceSub,Int.reduceLE,Int.reduceLT,Int.reduceToNat,cA,cB,true_and,and_true,Z5]
 refine JV (v:=.agg [i64 (s.length - u.length:Nat)]) rfl ?_
 simp only[Xt,Jb,Ja,Vb,Vd,Vc,Qp,Ql,reduceIte,reduceCtorEq,Nat.reduceEqDiff,Nat.reduceAdd,Nat.reduceMul,Nat.reduceLeDiff,Nat.reduceSub,Int.reduceLE,Int.reduceLT,Int.reduceToNat,cA,cB,true_and,and_true,Z5]
 exact⟨_,Xs (fun k=>by by_cases e:k=r <;> simp [Q2.upd,e,hr,rd,Zv]),rfl,rfl⟩
theorem YK {A:Q2}{r:Nat}{s u w:Bs}{lo:Bool}(hr:A r=some (rd s u lo))(hu:At s u)(hs:s.length<2^62):
 Qq Tryz.prog G 80 [.ptr r 0,.str w] A (Jj r s A lo Zm (fun _=>ZD) (Qk w u)):=by
 refine Q4 l80 (fE rfl) ?_
 simp only[C80,Jb,Ja,Vb,Vd,Vc,Qp,Ql,reduceIte,reduceCtorEq,Nat.reduceEqDiff,Nat.reduceAdd,Nat.reduceMul,Nat.reduceLeDiff,Nat.reduceSub,Int.reduceLE,Int.reduceLT,Int.reduceToNat,cA,cB,true_and,and_true,Z5]
 refine Q3 (T5 G hr hu hs) ?_
 by_cases h:cur u=w
 ·simp only[fA h,fC h,Qk,QR,Jb,Ja,Vb,Vd,Vc,Qp,Ql,reduceIte,reduceCtorEq,Nat.reduceEqDiff,Nat.reduceAdd,Nat.reduceMul,Nat.reduceLeDiff,Nat.reduceSub,Int.reduceLE,Int.reduceLT,Int.reduceToNat,cA,cB,true_and,and_true,Z5]
  exact Ka (Wk.refl _) (by rw[Qo];exact VU.refl _)
 ·simp only[fB h,fD h,Qk,Jb,Ja,Vb,Vd,Vc,Qp,Ql,reduceIte,reduceCtorEq,Nat.reduceEqDiff,Nat.reduceAdd,Nat.reduceMul,Nat.reduceLeDiff,Nat.reduceSub,Int.reduceLE,Int.reduceLT,Int.reduceToNat,cA,cB,true_and,and_true,Z5]
  exact YG (R:=.bad u) (k:=fun(a:Unit) u=>.ok a u) (PI (enc:=fun _=>ZD) (lo0:=lo) (big:=Zm) G hr) (VU.refl _) (fun _ _ h=>by cases h)
theorem WM {A:Q2}{r:Nat}{s u:Bs}{lo:Bool}(hr:A r=some (rd s u lo))(hu:At s u)(hs:s.length<2^62):
 Qq Tryz.prog G 81 [.ptr r 0] A (Jj r s A lo Zm .str (Z8 u)):=by
 have hl:(cur u).length<2^62:=by
  have:=hu.le
  simp only[cur,lJ];omega
 refine Q4 l81 (fE rfl) ?_
 simp only[C81,Jb,Ja,Vb,Vd,Vc,Qp,Ql,reduceIte,reduceCtorEq,Nat.reduceEqDiff,Nat.reduceAdd,Nat.reduceMul,Nat.reduceLeDiff,Nat.reduceSub,Int.reduceLE,Int.reduceLT,Int.reduceToNat,cA,cB,true_and,and_true,Z5]
 refine Q3 (KM G hr hu) ?_
 simp only[Jb,Ja,Vb,Vd,Vc,Qp,Ql,reduceIte,reduceCtorEq,Nat.reduceEqDiff,Nat.reduceAdd,Nat.reduceMul,Nat.reduceLeDiff,Nat.reduceSub,Int.reduceLE,Int.reduceLT,Int.reduceToNat,cA,cB,true_and,and_true,Z5]
 refine Q3 (ID G (cur u) A hl) ?_
 cases h:Qf (cur u)with
 |true=>
  simp only[Z8,h,Jb,Ja,Vb,Vd,Vc,Qp,Ql,reduceIte,reduceCtorEq,Nat.reduceEqDiff,Nat.reduceAdd,Nat.reduceMul,Nat.reduceLeDiff,Nat.reduceSub,Int.reduceLE,Int.reduceLT,Int.reduceToNat,cA,cB,true_and,and_true,Z5]
  refine Q3 (XX G hr hu hs) ?_
  simp only[Jb,Ja,Vb,Vd,Vc,Qp,Ql,reduceIte,reduceCtorEq,Nat.reduceEqDiff,Nat.reduceAdd,Nat.reduceMul,Nat.reduceLeDiff,Nat.reduceSub,Int.reduceLE,Int.reduceLT,Int.reduceToNat,cA,cB,true_and,and_true,Z5]
  exact Ka (Wk.refl _) (by rw[Qo];exact VU.refl _)
 |false=>
  simp only[Z8,h,Jb,Ja,Vb,Vd,Vc,Qp,Ql,reduceIte,reduceCtorEq,Nat.reduceEqDiff,Nat.reduceAdd,Nat.reduceMul,Nat.reduceLeDiff,Nat.reduceSub,Int.reduceLE,Int.reduceLT,Int.reduceToNat,cA,cB,true_and,and_true,Z5]
  exact YG (R:=.bad u) (k:=fun(a:Bs) u=>.ok a u) (PI (enc:=.str) (lo0:=lo) (big:=Zm) G hr) (VU.refl _) (fun _ _ h=>by cases h)
end
end Go.Proofs.YtcbjbgaefighcaaGreatDoor
