/- Part 33 of the proof. -/
import Derived.Test.YtcbjbgaefighcaaGreatDoorT0
import Derived.Test.YtcbjbgaefighcaaGreatDoorT7
import Derived.Test.YtcbjbgaefighcaaGreatDoorT26
import Derived.Test.YtcbjbgaefighcaaGreatDoorT27
import Derived.Test.YtcbjbgaefighcaaGreatDoorT32
set_option linter.all false
namespace Go.Proofs.YtcbjbgaefighcaaGreatDoor
open Go Go.Ax Go.Proofs
theorem Ip {C:Cx}{hd st body:LC}{c j j1:Nat}{s:List Fr}{env:Qo}{B:Q3}(n:Nat)(R:Nat→Qo→Q3→Prop)(h0:R 0 env B)
 (hhd:∀i env B s,i≤n→R i env B→C.run hd (.post (fun env' ds B'=>ds=[]∧env' c=bo (decide (i<n))∧R i env' B')::s) env [] B)
 (hbody:∀i env B FR,i<n→R i env B→(∀env ds B,C.ex .ret FR env ds B=C.ex .ret s env ds B)→C.run (.seq (.block j1 body) st) (.post (fun env' ds B'=>ds=[]∧R (i+1) env' B')::FR) env [] B)
 (hend:∀env B,R n env B→C.ex .normal s env [] B):
 C.run (.block j (.loop (.seq (.seq hd (.cond (.tmp c) .skip (.exit j))) (.seq (.block j1 body) st)))) s env [] B:=by
 rw[Xh]
 refine Qv (fun k env ds B=>∃i,k=n - i∧i≤n∧ds=[]∧R i env B) n ⟨0,by omega,by omega,rfl,h0⟩ ?_
 rintro k env ds B ⟨i,rfl,hi,rfl,hR⟩
 refine Qd (fun env ds B=>ds=[]∧i<n∧R i env B) ?_ ?_
 ·refine Qd _ (hhd i env B _ hi hR) ?_
  rintro env ds B ⟨rfl,hc,hR⟩
  by_cases h:i<n
  ·rw[fA h]at hc
   simp only[hc,h,QJ,seval]
   exact hR
  ·rw[fB h]at hc
   have:i=n:=by omega
   subst this
   simp only[hc,QJ,seval]
   exact hend _ _ hR
 ·rintro env ds B ⟨rfl,h,hR⟩
  have h2:=hbody i env B (.post (fun env ds A=>∃m,m<n - i∧∃i',m=n - i'∧i'≤n∧ds=[]∧R i' env A)::.blk j::s) h hR fun env ds B=>by simp only[QJ,seval]
  refine Vz _ _ _ (fun e env ds A h3=> ?_) env [] B h2
  cases e with
  |normal=>
   obtain⟨rfl,h3⟩:=h3
   exact⟨n - (i+1),by omega,i+1,rfl,h,rfl,h3⟩
  |exit j=>exact h3
  |ret=>exact h3
theorem J6 {α:Type}{enc:α→List AV}{sz:Nat}(hs:∀a,(enc a).length=sz){xs:List α}{i:Nat}(h:i<xs.length):(xs.flatMap enc).drop (i*sz)=enc xs[i]++(xs.drop (i+1)).flatMap enc:=by
 have:=Zg hs (xs.take i) (xs.drop i)
 rw[fY,List.length_take_of_le (by omega)]at this
 rw[this,dP h,dD]
theorem KE {α:Type}{enc:α→List AV}(hs:∀a,(enc a).length=1){xs:List α}{i:Nat}(h:i<xs.length):(xs.flatMap enc).drop i=enc xs[i]++(xs.drop (i+1)).flatMap enc:=by
 have:=J6 hs h
 rwa [Nat.mul_one]at this
theorem Eg {α:Type}{p:α→α→Bool}{xs ys:List α}{i:Nat}(h1:i<xs.length)(h2:i<ys.length):Zt p (xs.take (i+1)) (ys.take (i+1))=(Zt p (xs.take i) (ys.take i)&&p xs[i] ys[i]):=by
 rw[dJ h1,dJ h2,LX (by simp;omega)]
 simp [Zt]
theorem SL {α:Type}{p:α→α→Bool}{xs ys:List α}{i:Nat}(h1:i<xs.length)(h2:i<ys.length)(h:p xs[i] ys[i]=false):Zt p xs ys=false:=by
 have e1:xs=xs.take i++xs[i]::xs.drop (i+1):=by rw[←dP h1,fY]
 have e2:ys=ys.take i++ys[i]::ys.drop (i+1):=by rw[←dP h2,fY]
 rw[e1,e2,LX (by simp;omega)]
 simp [Zt,h]
theorem UC {α:Type}{p:α→α→Bool}{xs ys:List α}(h:xs.length≠ys.length):Zt p xs ys=false:=by
 cases h2:Zt p xs ys with
 |false=>rfl
 |true=>exact absurd (Iq h2) h
theorem Cn {α:Type}{p:α→α→Bool}{xs ys:List α}(h:Zt p (xs.take (min xs.length ys.length)) (ys.take (min xs.length ys.length))=true):Zt p xs ys=decide (xs.length=ys.length):=by
 by_cases e:xs.length=ys.length
 ·rw[←e,Nat.min_self,fT,e,fT]at h
  rw[h,fA e]
 ·rw[UC e,fB e]
theorem HS {C:Cx}{hd body st:LC}{c j j1 r v:Nat}{w:Bool}{s:List Fr}{env:Qo}{B B0:Q3}(n:Nat)(q:Fin n→Bool)(P:Qo→Prop)(hO:Z7 B0 B)(hP:P env)(hv:env v=i64 0)(hn:n<2^62)
 (hhd:∀i env B s,i≤n→P env→env v=i64 i→Z7 B0 B→C.run hd (.post (fun env' ds B'=>ds=[]∧env' c=bo (decide (i<n))∧P env'∧env' v=i64 i∧Z7 B0 B')::s) env [] B)
 (hb:∀(i:Nat) (h:i<n) env B FR,P env→env v=i64 i→Z7 B0 B→
  (q ⟨i,h⟩=false→∀env' B',P env'→env' v=i64 i→Z7 B0 B'→C.ex .normal FR env' [] B')→(q ⟨i,h⟩=true→∀env' B',env' r=bo w→Z7 B0 B'→C.ex .ret FR env' [] B')→C.run body FR env [] B)
 (hst:∀(i:Nat) (_:i<n) (_:IntKind.i64.wrap ((i:Int)+1)=((i+1:Nat):Int)) env B s,P env→env v=i64 i→C.run st (.post (fun env' ds B'=>ds=[]∧P env'∧env' v=i64 (i+1:Nat)∧B'=B)::s) env [] B)
 (hbad:∀i,q i=true→∀env B,Z7 B0 B→env r=bo w→C.ex .ret s env [] B)
 (hgood:(∀i,q i=false)→∀env B,P env→Z7 B0 B→C.ex .normal s env [] B):
 C.run (.block j (.loop (.seq (.seq hd (.cond (.tmp c) .skip (.exit j))) (.seq (.block j1 body) st)))) s env [] B:=by
 refine Ip n (fun i env B=>P env∧env v=i64 i∧Z7 B0 B∧∀i':Fin n,i'<i→q i'=false) ⟨hP,hv,hO,fun i' h=>absurd h (by omega)⟩ ?_ ?_ ?_
 ·rintro i env B s hi ⟨hP,hv,hO,hq⟩
  refine Vz _ _ _ (fun e env ds A h3=> ?_) env [] B (hhd i env B s hi hP hv hO)
  cases e with
  |normal=>exact⟨h3.1,h3.2.1,h3.2.2.1,h3.2.2.2.1,h3.2.2.2.2,hq⟩
  |exit j=>exact h3
  |ret=>exact h3
 ·rintro i env B FR hi ⟨hP,hv,hO,hq⟩ hret
  rw[H8,Xh]
  refine hb i hi env B _ hP hv hO (fun hqi env' B' hP hv hO=> ?_) (fun hqi env' B' hr hO=> ?_)
  ·simp only[QJ,seval]
   refine Vz _ _ _ (fun e env ds A h3=> ?_) env' [] B' (hst i hi (by rw[Qg (by omega) (by omega)];simp) env' B' FR hP hv)
   cases e with
   |normal=>
    obtain⟨rfl,h1,h2,rfl⟩:=h3
    exact⟨rfl,h1,h2,hO,fun i' h=>by
     rcases fH i'.val i with h|h
     ·exact hq i' h
     ·have:i'=⟨i,hi⟩:=Fin.ext (by simp only;omega)
      rw[this];exact hqi⟩
   |exit j=>exact h3
   |ret=>exact h3
  ·simp only[hret,QJ,seval]
   exact hbad _ hqi _ _ hO hr
 ·rintro env B ⟨hP,hv,hO,hq⟩
  exact hgood (fun i=>hq i i.isLt) env B hP hO
theorem UD {C:Cx}{hd D st:LC}{c j j1 k r v:Nat}{w:Bool}{s:List Fr}{env:Qo}{B B0:Q3}(n:Nat)(q:Fin n→Bool)(P:Qo→Prop)(hO:Z7 B0 B)(hP:P env)(hv:env v=i64 0)(hn:n<2^62)
 (hhd:∀i env B s,i≤n→P env→env v=i64 i→Z7 B0 B→C.run hd (.post (fun env' ds B'=>ds=[]∧env' c=bo (decide (i<n))∧P env'∧env' v=i64 i∧Z7 B0 B')::s) env [] B)
 (hD:∀(i:Nat) (h:i<n) env B s,P env→env v=i64 i→Z7 B0 B→C.run D (.post (fun env' ds B'=>ds=[]∧env' k=bo (q ⟨i,h⟩)∧P env'∧env' v=i64 i∧Z7 B0 B')::s) env [] B)
 (hst:∀(i:Nat) (_:i<n) (_:IntKind.i64.wrap ((i:Int)+1)=((i+1:Nat):Int)) env B s,P env→env v=i64 i→C.run st (.post (fun env' ds B'=>ds=[]∧P env'∧env' v=i64 (i+1:Nat)∧B'=B)::s) env [] B)
 (hbad:∀i,q i=true→∀env B,Z7 B0 B→env r=bo w→C.ex .ret s env [] B)
 (hgood:(∀i,q i=false)→∀env B,P env→Z7 B0 B→C.ex .normal s env [] B):
 C.run (.block j (.loop (.seq (.seq hd (.cond (.tmp c) .skip (.exit j))) (.seq (.block j1 (.seq D (.cond (.tmp k) (.seq (.ops [⟨some r,.mv (.const (.bool w)),none⟩]) .ret) .skip))) st)))) s env [] B:=by
 refine HS (r:=r) (w:=w) n q P hO hP hv hn hhd (fun i h env B FR hP hv hO h1 h2=> ?_) hst hbad hgood
 refine Qd _ (hD i h env B _ hP hv hO) ?_
 rintro env ds B ⟨rfl,hk,hP,hv,hO⟩
 cases hqi:q ⟨i,h⟩with
 |true=>
  rw[hqi]at hk
  simp only[hk,QJ,seval]
  exact h2 hqi _ _ (by simp only[JH,if_true]) hO
 |false=>
  rw[hqi]at hk
  simp only[hk,QJ,seval]
  exact h1 hqi _ _ hP hv hO
theorem SK {α:Type}{p:α→α→Bool}:∀{xs ys:List α} (h:xs.length=ys.length),(∀i:Fin xs.length,p xs[i] (ys[i.val]'(by have:=i.isLt;omega))=true)→Zt p xs ys=true
 |[],[],_,_=>rfl
 |x::xs,y::ys,h,hq=>by
  simp only[Zt,cD]
  exact⟨hq ⟨0,by simp⟩,SK (by simpa using h) fun i=>hq ⟨i.val+1,by have:=i.isLt;simp⟩⟩
 |[],_::_,h,_=>by simp at h
 |_::_,[],h,_=>by simp at h
theorem any_fin {α:Type}{f:α→Bool}{xs:List α}:(∀i:Fin xs.length,f xs[i]=false)→xs.any f=false:=fun h=>by
 rw[fM]
 intro x hx
 obtain⟨i,hi,rfl⟩:=List.mem_iff_getElem.1 hx
 rw[cP];exact h ⟨i,hi⟩
theorem yD {α:Type}{f:α→Bool}{xs:List α}(i:Fin xs.length)(h:f xs[i]=true):xs.any f=true:=List.any_eq_true.2 ⟨_,cV _,h⟩
theorem Hd {a b:Nat}:((a:Int)=b→AV.raw (.bool true)=bo (decide (a=b)))∧(¬(a:Int)=b→AV.raw (.bool false)=bo (decide (a=b))):=
 ⟨fun h=>by rw[fA (by omega)],fun h=>by rw[fB (by omega)]⟩
theorem U7 {a b:Nat}{R:Prop}(h:R):((a:Int)<b→AV.raw (.bool true)=bo (decide (a<b))∧R)∧(¬(a:Int)<b→AV.raw (.bool false)=bo (decide (a<b))∧R):=
 ⟨fun h1=>⟨by rw[fA (by omega)],h⟩,fun h1=>⟨by rw[fB (by omega)],h⟩⟩
theorem Xg {α:Type}{p:α→α→Bool}{xs ys:List α}(hl:xs.length=ys.length)(i:Fin xs.length)(h:(!(p xs[i] (ys[i.val]'(by have:=i.isLt;omega))))=true):Zt p xs ys=false:=by
 have:=i.isLt
 exact SL (i:=i.val) i.isLt (by omega) (by simpa using h)
theorem Xf {α:Type}{p:α→α→Bool}{xs ys:List α}(h:xs.length=ys.length)(hq:∀i:Fin xs.length,(!(p xs[i] (ys[i.val]'(by have:=i.isLt;omega))))=false):Zt p xs ys=true:=SK h fun i=>by simpa using hq i
theorem Ed {a b:Int}:Qf .neq .num (i64 a) (i64 b)=some (bo !(a==b)):=by
 simp only[Qf,Zb,if_true];rfl
theorem HQ {a b:Bs}:Qf .neq .num (.str a) (.str b)=some (bo !(a==b)):=rfl
theorem kM {a b:Bool}:Qf .neq .bool (bo a) (bo b)=some (bo !(a==b)):=by cases a <;> cases b <;> rfl
open Go.Ax.K
def CSm (D:Sched)(k:Nat)(tl:LC):LC:=
 .seq (.ops [o 4 (mc (.bool false))])<|.seq (.seq (.ops [o 5 (mc (.int .i64 0))])<|.block 0<|.loop<|.seq (.seq (.ops [o 6 (mv 5),o 7 (mv 0),o 8 (le 7),o 9 (bn .lss 6 8),o 10 (mv 9),gt 10 11 (mv 5),gt 10 12 (mv 1),gt 10 13 (le 12),gt 10 14 (bn .lss 11 13),o 15 (pa 10 14)])<|.cond (t 15) (.skip)<|.exit 0)<|.seq (.block 1<|.seq (.draw D)<|.cond (t k) (.seq (.ops [o 4 (mc (.bool false))])<|.ret)<|.skip)<|.ops [o 16 (mv 5),o 17 (bk .add 16 (1)),o 5 (mv 17)])<|.seq tl<|.ret
section
variable (G:Nat→Option (List AV))
theorem kSm {α:Type}{A:Q3}{f n k sz:Nat}{D:Sched}{tl:LC}(hl:Q8 Tryz.prog f=some ⟨n,false,[.tmp 4],CSm D k tl⟩)(hn:2≤n){xs ys:List α}{enc:α→List AV}{p:α→α→Bool}{t1 t2:Option Nat}(hlen:xs.length<2^62)
 (hD:∀K i env B s,(hx:i<xs.length)→(hy:i<ys.length)→env 0=.slice sz xs.length (xs.flatMap enc) t1→env 1=.slice sz ys.length (ys.flatMap enc) t2→env 5=i64 i→
  (Cx.of Tryz.prog G false [.tmp 4] K).run (.draw D) (.post (fun env' ds B'=>ds=[]∧env' k=bo !(p xs[i] ys[i])∧env' 0=env 0∧env' 1=env 1∧env' 5=i64 i∧Z7 B B')::s) env [] B)
 (ht:∀K env B s,env 0=.slice sz xs.length (xs.flatMap enc) t1→env 1=.slice sz ys.length (ys.flatMap enc) t2→
  (Cx.of Tryz.prog G false [.tmp 4] K).run tl (.post (fun env' ds B'=>ds=[]∧env' 4=bo (decide (xs.length=ys.length))∧B'=B)::s) env [] B):
 Qu Tryz.prog G f [.slice sz xs.length (xs.flatMap enc) t1,.slice sz ys.length (ys.flatMap enc) t2] A (bo (Zt p xs ys)) A:=by
 refine Q4 hl hn ?_
 unfold CSm
 simp only[Q1,seval]
 refine Ip (min xs.length ys.length) (fun i env B=>env 0=.slice sz xs.length (xs.flatMap enc) t1∧env 1=.slice sz ys.length (ys.flatMap enc) t2∧env 5=i64 i∧Z7 A B∧Zt p (xs.take i) (ys.take i)=true) ⟨rfl,rfl,rfl,.refl _,rfl⟩ ?_ ?_ ?_
 ·rintro i env B s hi ⟨e0,e1,e5,hO,hE⟩
  by_cases h1:(i:Int)<xs.length
  ·by_cases h2:(i:Int)<ys.length
   ·simp only[e0,e1,e5,h1,h2,Q1,seval]
    exact⟨by rw[fA (by omega)],hO,hE⟩
   ·simp only[e0,e1,e5,h1,h2,Q1,seval]
    exact⟨by rw[fB (by omega)],hO,hE⟩
  ·simp only[e0,e1,e5,h1,Q1,seval]
   exact⟨by rw[fB (by omega)],hO,hE⟩
 ·rintro i env B FR hi ⟨e0,e1,e5,hO,hE⟩ hret
  have hx:i<xs.length:=by omega
  have hy:i<ys.length:=by omega
  have e3:IntKind.i64.wrap ((i:Int)+1)=((i+1:Nat):Int):=by rw[Qg (by omega) (by omega)];simp
  rw[H8,Xh]
  refine Qd _ (hD _ i env B _ hx hy e0 e1 e5) ?_
  rintro env' _ B' ⟨rfl,hk,e0',e1',e5',hO'⟩
  rw[e0]at e0'
  rw[e1]at e1'
  have hO':=Z7.trans hO hO'
  have hE':=Eg (p:=p) hx hy
  cases hp:p xs[i] ys[i]with
  |false=>
   rw[hp]at hk
   simp only[hk,Q1,seval]
   rw[hret]
   simp only[Q1,seval]
   exact Qb (by rw[SL hx hy hp]) hO'
  |true=>
   rw[hp]at hk
   simp only[hk,e0',e1',e5',e3,Q1,seval]
   exact⟨hO',by rw[hE',hE,hp];rfl⟩
 ·rintro env B ⟨e0,e1,e5,hO,hE⟩
  simp only[Q1,seval]
  refine Ny ?_
  refine Qd _ (ht _ env B _ e0 e1) ?_
  rintro env' _ B' ⟨rfl,e4,rfl⟩
  simp only[e4,Q1,seval]
  exact Qb (by rw[Cn hE]) hO
theorem k33 {xs ys:List Bs}{A:Q3}{n m:Nat}{cs ds:List AV}{t1 t2:Option Nat}(hn:n=xs.length)(hcs:cs=xs.flatMap Zl)(hm:m=ys.length)(hds:ds=ys.flatMap Zl)(hlen:xs.length<2^62):
 Qu Tryz.prog G 33 [.slice 1 n cs t1,.slice 1 m ds t2] A (bo (Zt (fun a b=>a==b) xs ys)) A:=by
 subst hn hcs hm hds
 refine kSm G l33 (fE rfl) (sz:=1) hlen (fun K i env B s hx hy e0 e1 e5=> ?_) (fun K env B s e0 e1=> ?_)
 ·have Zf:=KE (enc:=Zl) (fun _=>rfl) hx
  have hd2:=KE (enc:=Zl) (fun _=>rfl) hy
  have h1:(i:Int)<xs.length:=by omega
  have h2:(i:Int)<ys.length:=by omega
  simp only[e0,e1,e5,Zf,hd2,Nat.mul_one,h1,h2,Zl,Q1,seval]
  rw[show Qf .neq .num (.str xs[i]) (.str ys[i])=some (bo !(xs[i]==ys[i]))from rfl]
  simp only[QW,Q1,seval]
  exact⟨e0,e1,e5,.refl _⟩
 ·simp only[e0,e1,Q1,seval]
  exact Hd
theorem CY {xs ys:List Test}{A:Q3}{n m:Nat}{cs ds:List AV}{t1 t2:Option Nat}(hn:n=xs.length)(hcs:cs=xs.flatMap Test.cells)(hm:m=ys.length)(hds:ds=ys.flatMap Test.cells)(hlen:xs.length<2^62):
 Qu Tryz.prog G 100 [.slice 4 n cs t1,.slice 4 m ds t2] A (bo (Zt Uu xs ys)) A:=by
 subst hn hcs hm hds
 refine kSm G l100 (fE rfl) (sz:=4) hlen (fun K i env B s hx hy e0 e1 e5=> ?_) (fun K env B s e0 e1=> ?_)
 ·have Zf:=J6 (enc:=Test.cells) (sz:=4) (fun _=>rfl) hx
  have hd2:=J6 (enc:=Test.cells) (sz:=4) (fun _=>rfl) hy
  have h1:(i:Int)<xs.length:=by omega
  have h2:(i:Int)<ys.length:=by omega
  simp only[e0,e1,e5,Zf,hd2,h1,h2,Test.cells,Q1,seval]
  rw[show Qf .neq (.struct [.s,.b,.b,.i]) (.agg [.str xs[i].clock,bo xs[i].lower,bo xs[i].strict,i64 xs[i].c]) (.agg [.str ys[i].clock,bo ys[i].lower,bo ys[i].strict,i64 ys[i].c])=some (bo !(Uu xs[i] ys[i]))from eqT]
  simp only[QW,Q1,seval]
  exact⟨e0,e1,e5,.refl _⟩
 ·simp only[e0,e1,Q1,seval]
  exact Hd
theorem k21 (a b:Exp){A:Q3}(h:VS a):Qu Tryz.prog G 21 [.agg a.cells,.agg b.cells] A (bo (Y9 a b)) A:=by
 generalize hn:SizeOf.sizeOf a=sz
 induction sz using Nat.strongRecOn generalizing a b A with
 |_ sz ih=>
 obtain⟨k,n,i,xs⟩:=a
 obtain⟨k2,n2,i2,ys⟩:=b
 simp only[VS]at h
 refine Q4 l21 (fE rfl) ?_
 unfold C21
 refine VT rfl rfl fun p q env B e2 e3 hp hq hO=> ?_
 simp only[Exp.cells,Exp.cellsL_eq]at hp hq
 simp only[e2,e3,hp,hq,Q1,seval]
 refine⟨fun h1=>⟨fun h2=>⟨fun h3=>⟨fun h4=> ?_,fun h4=>Qb (by simp [Y9,WW,UC (p:=Y9) (show xs.length≠ys.length by omega)]) hO⟩,fun h=>Qb (by simp [Y9,h]) hO⟩,fun h=>Qb (by simp [Y9,h]) hO⟩,fun h=>Qb (by simp [Y9,h]) hO⟩
 have h4:xs.length=ys.length:=by omega
 refine UD (v:=5) xs.length (fun i=> !(Y9 xs[i] (ys[i.val]'(by have:=i.isLt;omega)))) (fun env=>env 2=.ptr p 0∧env 3=.ptr q 0) (.refl B) ⟨e2,e3⟩ rfl (by omega) ?_ ?_ ?_ ?_ ?_
 ·rintro i env B' s hi ⟨e2,e3⟩ e5 hO'
  have hp:=hO'.keep hp
  simp only[e2,e3,e5,hp,Q1,seval]
  exact U7 hO'
 ·rintro i hi env B' s ⟨e2,e3⟩ e5 hO'
  have hp:=hO'.keep hp
  have hq:=hO'.keep hq
  have Zf:=J6 (enc:=Exp.cells) (sz:=4) Exp.cells_len hi
  have hd2:=J6 (enc:=Exp.cells) (sz:=4) Exp.cells_len (xs:=ys) (i:=i) (by omega)
  have i1:(i:Int)<xs.length:=by omega
  have i2:(i:Int)<ys.length:=by omega
  simp only[e2,e3,e5,hp,hq,Zf,hd2,i1,i2,Q1,seval]
  refine Q2 (ih (SizeOf.sizeOf xs[i]) ?_ xs[i] ys[i] (Xd h.2.2 _ (cV _)) rfl) ?_
  ·have:=cY (cV hi)
   rw[←hn];simp only[Exp.mk.sizeOf_spec];omega
  simp only[e2,e3,e5,hp,hq,QW,Q1,seval]
  exact⟨rfl,hO'⟩
 ·rintro i hi hw env B' s ⟨e2,e3⟩ e5
  simp only[e2,e3,e5,hw,Q1,seval]
 ·rintro i hi env B' hO' e4
  simp only[e4,Q1,seval]
  exact Qb (by simp [Y9,WW,Xg h4 i hi]) (Z7.trans hO hO')
 ·rintro hi env B' _ hO'
  simp only[Q1,seval]
  exact Qb (by simp [Y9,WW,Xf h4 hi,h1,h2,h3]) (Z7.trans hO hO')
theorem k99 (xs ys:List Stmt){A:Q3}(hl:xs.length<2^60)(h:K4 xs):Qu Tryz.prog G 99 [.slice 8 xs.length (Stmt.cellsL xs) none,.slice 8 ys.length (Stmt.cellsL ys) none] A (bo (Zt YR xs ys)) A:=by
 generalize hn:SizeOf.sizeOf xs=sz
 induction sz using Nat.strongRecOn generalizing xs ys A with
 |_ sz ih=>
 rw[Stmt.cellsL_eq,Stmt.cellsL_eq]
 refine kSm G l99 (fE rfl) (sz:=8) (by omega) (fun K i env B s hx hy e0 e1 e5=> ?_) (fun K env B s e0 e1=> ?_)
 ·have Zf:=J6 (enc:=Stmt.cells) (sz:=8) Stmt.cells_len hx
  have hd2:=J6 (enc:=Stmt.cells) (sz:=8) Stmt.cells_len hy
  have h1:(i:Int)<xs.length:=by omega
  have h2:(i:Int)<ys.length:=by omega
  have hlt:=Xc h _ (cV hx)
  have hsz:=cY (cV hx)
  generalize xs[i]=x at*
  generalize ys[i]=y at*
  obtain⟨k,n,v,b,e⟩:=x
  obtain⟨k2,n2,v2,b2,e2⟩:=y
  simp only[KO]at hlt
  have i0:=fun A=>k21 G v v2 (A:=A) hlt.2.1
  have i1:=fun A=>ih (SizeOf.sizeOf b) (by simp only[Stmt.mk.sizeOf_spec]at hsz;omega) b b2 (A:=A) hlt.2.2.1 hlt.2.2.2.2.1 rfl
  have i2:=fun A=>ih (SizeOf.sizeOf e) (by simp only[Stmt.mk.sizeOf_spec]at hsz;omega) e e2 (A:=A) hlt.2.2.2.1 hlt.2.2.2.2.2 rfl
  clear ih
  obtain⟨v0,v1,vi,vx⟩:=v
  obtain⟨w0,w1,wi,wx⟩:=v2
  simp only[Exp.cells]at i0
  simp only[Stmt.cells,Exp.cells,cF,cI]at Zf hd2
  simp only[e0,e1,e5,Zf,hd2,h1,h2,Q1,seval]
  rw[Ed]
  cases g0:k==k2 with
  |false=>
   simp only[e0,e1,e5,Zf,hd2,h1,h2,QW,Q1,seval]
   exact⟨by simp [YR,g0],.refl _⟩
  |true=>
  simp only[e0,e1,e5,Zf,hd2,h1,h2,Q1,seval]
  rw[HQ]
  cases g1:n==n2 with
  |false=>
   simp only[e0,e1,e5,Zf,hd2,h1,h2,QW,Q1,seval]
   exact⟨by simp [YR,g1],.refl _⟩
  |true=>
  simp only[e0,e1,e5,Zf,hd2,h1,h2,Q1,seval]
  refine Q2 (i0 _) ?_
  cases g2:Y9 (.mk v0 v1 vi vx) (.mk w0 w1 wi wx)with
  |false=>
   simp only[e0,e1,e5,Zf,hd2,h1,h2,QW,Q1,seval]
   exact⟨by simp [YR,g2],.refl _⟩
  |true=>
  simp only[e0,e1,e5,Zf,hd2,h1,h2,Q1,seval]
  refine Q2 (i1 _) ?_
  cases g3:Zt YR b b2 with
  |false=>
   simp only[e0,e1,e5,Zf,hd2,h1,h2,QW,Q1,seval]
   exact⟨by simp [YR,KW,g3],.refl _⟩
  |true=>
  simp only[e0,e1,e5,Zf,hd2,h1,h2,Q1,seval]
  refine Q2 (i2 _) ?_
  simp only[e0,e1,e5,Zf,hd2,h1,h2,QW,Q1,seval]
  exact⟨by simp [YR,KW,g0,g1,g2,g3],.refl _⟩
 ·simp only[e0,e1,Q1,seval]
  exact Hd
theorem k34 (xs ys:List Func){A:Q3}(hl:xs.length<2^60)(h:∀f∈xs,HX f):Qu Tryz.prog G 34 [.slice 3 xs.length (xs.flatMap Func.cells) none,.slice 3 ys.length (ys.flatMap Func.cells) none] A (bo (Zt Uv xs ys)) A:=by
 refine kSm G l34 (fE rfl) (sz:=3) (by omega) (fun K i env B s hx hy e0 e1 e5=> ?_) (fun K env B s e0 e1=> ?_)
 ·have Zf:=J6 (enc:=Func.cells) (sz:=3) (fun _=>rfl) hx
  have hd2:=J6 (enc:=Func.cells) (sz:=3) (fun _=>rfl) hy
  have h1:(i:Int)<xs.length:=by omega
  have h2:(i:Int)<ys.length:=by omega
  have hlt:=h _ (cV hx)
  generalize xs[i]=x at*
  generalize ys[i]=y at*
  obtain⟨n,p,b⟩:=x
  obtain⟨n2,p2,b2⟩:=y
  simp only[HX]at hlt
  have i0:=fun A=>k33 G (xs:=p) (ys:=p2) (A:=A) (t1:=none) (t2:=none) rfl rfl rfl rfl (by omega)
  have i1:=fun A=>k99 G b b2 (A:=A) hlt.2.2.2.1 hlt.2.2.2.2
  simp only[Stmt.cellsL_eq]at i1
  simp only[Func.cells,Qy,cF,cI]at Zf hd2
  simp only[e0,e1,e5,Zf,hd2,h1,h2,Q1,seval]
  rw[HQ]
  cases g0:n==n2 with
  |false=>
   simp only[e0,e1,e5,Zf,hd2,h1,h2,QW,Q1,seval]
   exact⟨by simp [Uv,g0],.refl _⟩
  |true=>
  simp only[e0,e1,e5,Zf,hd2,h1,h2,Q1,seval]
  refine Q2 (i0 _) ?_
  cases g1:Zt (fun a b=>a==b) p p2 with
  |false=>
   simp only[e0,e1,e5,Zf,hd2,h1,h2,QW,Q1,seval]
   exact⟨by simp [Uv,g1],.refl _⟩
  |true=>
  simp only[e0,e1,e5,Zf,hd2,h1,h2,Q1,seval]
  refine Q2 (i1 _) ?_
  simp only[e0,e1,e5,Zf,hd2,h1,h2,QW,Q1,seval]
  exact⟨by simp [Uv,g0,g1],.refl _⟩
 ·simp only[e0,e1,Q1,seval]
  exact Hd
end
section
variable (G:Nat→Option (List AV))
theorem k101 (a b:Edge){A:Q3}(h:Iz a):Qu Tryz.prog G 101 [.agg a.cells,.agg b.cells] A (bo (ZZ a b)) A:=by
 obtain⟨n,d,ts,⟨v0,v1,vi,vx⟩,ch,sd,ss,cs,co,ki⟩:=a
 obtain⟨n2,d2,ts2,⟨w0,w1,wi,wx⟩,ch2,sd2,ss2,cs2,co2,ki2⟩:=b
 simp only[Iz,Hl]at h
 obtain⟨y1,y2,y3,y4,y5,y6,y7,y8,y9,y10⟩:=h
 have i0:=fun A=>k21 G (.mk v0 v1 vi vx) (.mk w0 w1 wi wx) (A:=A) y5.1
 have i1:=fun A=>CY G (xs:=ts) (ys:=ts2) (A:=A) (t1:=none) (t2:=none) rfl rfl rfl rfl (by omega)
 simp only[Exp.cells]at i0
 refine Q4 l101 (fE rfl) ?_
 unfold qR
 refine VT rfl rfl fun p q env B e2 e3 hp hq hO=> ?_
 simp only[Edge.cells,Exp.cells,Qy,cF,cI]at hp hq
 simp only[e2,e3,hp,hq,Q1,seval]
 refine⟨fun g1=>⟨fun g2=>Q2 (i1 _) ?_,fun h=>Qb (by simp [ZZ,h]) hO⟩,fun h=>Qb (by simp [ZZ,h]) hO⟩
 cases g3:Zt Uu ts ts2 with
 |false=>
  simp only[e2,e3,hp,hq,Q1,seval]
  exact Qb (by simp [ZZ,g3]) hO
 |true=>
 simp only[e2,e3,hp,hq,Q1,seval]
 refine Q2 (i0 _) ?_
 cases g4:Y9 (.mk v0 v1 vi vx) (.mk w0 w1 wi wx)with
 |false=>
  simp only[e2,e3,hp,hq,Q1,seval]
  exact Qb (by simp [ZZ,g4]) hO
 |true=>
 simp only[e2,e3,hp,hq,Q1,seval]
 refine⟨fun g5=>⟨fun g6=>⟨fun g7=>⟨fun g8=>⟨fun g9=>⟨fun g10=> ?_,fun h=>Qb (by simp [ZZ,UC (p:=WH) (show cs.length≠cs2.length by omega)]) hO⟩,fun h=>Qb (by simp [ZZ,UC (p:=Uw) (show ss.length≠ss2.length by omega)]) hO⟩,fun h=>Qb (by simp [ZZ,h]) hO⟩,fun h=>Qb (by simp [ZZ,h]) hO⟩,fun h=>Qb (by simp [ZZ,h]) hO⟩,fun h=>Qb (by simp [ZZ,h]) hO⟩
 have g9:ss.length=ss2.length:=by omega
 have g10:cs.length=cs2.length:=by omega
 refine UD (v:=5) ss.length (fun i=> !(Uw ss[i] (ss2[i.val]'(by have:=i.isLt;omega)))) (fun env=>env 2=.ptr p 0∧env 3=.ptr q 0) (.refl B) ⟨e2,e3⟩ rfl (by omega) ?_ ?_ ?_ ?_ ?_
 ·rintro i env B' s hi ⟨e2,e3⟩ e5 hO'
  have hp:=hO'.keep hp
  simp only[e2,e3,e5,hp,Q1,seval]
  exact U7 hO'
 ·rintro i hi env B' s ⟨e2,e3⟩ e5 hO'
  have hp:=hO'.keep hp
  have hq:=hO'.keep hq
  have Zf:=J6 (enc:=Assign.cells) (sz:=5) Assign.cells_len hi
  have hd2:=J6 (enc:=Assign.cells) (sz:=5) Assign.cells_len (xs:=ss2) (i:=i) (by omega)
  have i1:(i:Int)<ss.length:=by omega
  have i2:(i:Int)<ss2.length:=by omega
  have hlt:=(y8 _ (cV hi)).2.1
  obtain⟨x,hx⟩:∃x,ss[i]=x:=⟨_,rfl⟩
  obtain⟨y,hy⟩:∃y,ss2[i]=y:=⟨_,rfl⟩
  have hxy:bo (!(Uw ss[(⟨i,hi⟩:Fin ss.length)] ss2[i]))=bo (!(Uw x y)):=by rw[←hx,←hy];rfl
  rw[hxy]
  rw[hx]at hlt Zf
  rw[hy]at hd2
  have i0:=fun A=>k21 G x.val y.val (A:=A) hlt
  obtain⟨xn,x0,x1,xi,xx⟩:=x
  obtain⟨yn,y0,y1,yi,yx⟩:=y
  simp only[Exp.cells]at i0
  simp only[Assign.cells,Exp.cells,cF,cI]at Zf hd2
  simp only[e2,e3,e5,hp,hq,Zf,hd2,i1,i2,Q1,seval]
  rw[HQ]
  cases g0:xn==yn with
  |false=>
   simp only[e2,e3,e5,hp,hq,Zf,hd2,i1,i2,QW,Q1,seval]
   exact⟨by simp [Uw,g0],hO'⟩
  |true=>
  simp only[e2,e3,e5,hp,hq,Zf,hd2,i1,i2,Q1,seval]
  refine Q2 (i0 _) ?_
  simp only[e2,e3,e5,hp,hq,QW,Q1,seval]
  exact⟨by simp [Uw,g0],hO'⟩
 ·rintro i hi hw env B' s ⟨e2,e3⟩ e5
  simp only[e2,e3,e5,hw,Q1,seval]
 ·rintro i hi env B' hO' e4
  simp only[e4,Q1,seval]
  exact Qb (by simp [ZZ,Xg g9 i hi]) (Z7.trans hO hO')
 rintro hS env B' ⟨e2,e3⟩ hO'
 have g11:=Xf g9 hS
 have hO:=Z7.trans hO hO'
 have hp:=hO'.keep hp
 have hq:=hO'.keep hq
 clear hS hO'
 simp only[Q1,seval]
 refine UD (v:=6) cs.length (fun i=> !(WH cs[i] (cs2[i.val]'(by have:=i.isLt;omega)))) (fun env=>env 2=.ptr p 0∧env 3=.ptr q 0) (.refl B') ⟨e2,e3⟩ rfl (by omega) ?_ ?_ ?_ ?_ ?_
 ·rintro i env B' s hi ⟨e2,e3⟩ e5 hO'
  have hp:=hO'.keep hp
  simp only[e2,e3,e5,hp,Q1,seval]
  exact U7 hO'
 ·rintro i hi env B' s ⟨e2,e3⟩ e5 hO'
  have hp:=hO'.keep hp
  have hq:=hO'.keep hq
  have Zf:=J6 (enc:=Clear.cells) (sz:=2) (fun _=>rfl) hi
  have hd2:=J6 (enc:=Clear.cells) (sz:=2) (fun _=>rfl) (xs:=cs2) (i:=i) (by omega)
  have i1:(i:Int)<cs.length:=by omega
  have i2:(i:Int)<cs2.length:=by omega
  simp only[e2,e3,e5,hp,hq,Zf,hd2,i1,i2,Clear.cells,Q1,seval]
  rw[show Qf .neq (.struct [.s,.i]) (.agg [.str cs[i].clock,i64 cs[i].tv]) (.agg [.str cs2[i].clock,i64 cs2[i].tv])=some (bo !(WH cs[i] cs2[i]))from eqC]
  simp only[e2,e3,e5,hp,hq,QW,Q1,seval]
  exact⟨rfl,hO'⟩
 ·rintro i hi hw env B' s ⟨e2,e3⟩ e5
  simp only[e2,e3,e5,hw,Q1,seval]
 ·rintro i hi env B' hO' e4
  simp only[e4,Q1,seval]
  exact Qb (by simp [ZZ,Xg g10 i hi]) (Z7.trans hO hO')
 ·rintro hi env B' _ hO'
  simp only[Q1,seval]
  exact Qb (by simp [ZZ,g1,g2,g3,g4,g5,g6,g7,g8,g11,Xf g10 hi]) (Z7.trans hO hO')
theorem k35 (a b:Proc){A:Q3}(h:PY a):Qu Tryz.prog G 35 [.agg a.cells,.agg b.cells] A (bo (V2 a b)) A:=by
 obtain⟨n,i,ls,es⟩:=a
 obtain⟨n2,i2,ls2,es2⟩:=b
 obtain⟨y1,y2,y3,y4,y5,y6⟩:=h
 simp only at y1 y2 y3 y4 y5 y6
 refine Q4 l35 (fE rfl) ?_
 unfold C35
 refine VT rfl rfl fun p q env B e2 e3 hp hq hO=> ?_
 simp only[Proc.cells,Qy]at hp hq
 simp only[e2,e3,hp,hq,Q1,seval]
 refine⟨fun g1=>⟨fun g2=>⟨fun g3=>⟨fun g4=> ?_,fun h=>Qb (by simp [V2,UC (p:=ZZ) (show es.length≠es2.length by omega)]) hO⟩,fun h=>Qb (by simp [V2,UC (p:=V3) (show ls.length≠ls2.length by omega)]) hO⟩,fun h=>Qb (by simp [V2,h]) hO⟩,fun h=>Qb (by simp [V2,h]) hO⟩
 have g3:ls.length=ls2.length:=by omega
 have g4:es.length=es2.length:=by omega
 refine HS (v:=5) (r:=4) (w:=false) ls.length (fun i=> !(V3 ls[i] (ls2[i.val]'(by have:=i.isLt;omega)))) (fun env=>env 2=.ptr p 0∧env 3=.ptr q 0) (.refl B) ⟨e2,e3⟩ rfl (by omega) ?_ ?_ ?_ ?_ ?_
 ·rintro i env B' s hi ⟨e2,e3⟩ e5 hO'
  have hp:=hO'.keep hp
  simp only[e2,e3,e5,hp,Q1,seval]
  exact U7 hO'
 ·rintro i hi env B' FR ⟨e2,e3⟩ e5 hO' hgo hre
  have hp:=hO'.keep hp
  have hq:=hO'.keep hq
  have Zf:=J6 (enc:=Loc.cells) (sz:=4) (fun _=>rfl) hi
  have hd2:=J6 (enc:=Loc.cells) (sz:=4) (fun _=>rfl) (xs:=ls2) (i:=i) (by omega)
  have i1:(i:Int)<ls.length:=by omega
  have i2:(i:Int)<ls2.length:=by omega
  have hlt:ls[i].inv.length<2^60:=(y4 _ (cV hi)).2.1
  obtain⟨x,hx⟩:∃x,ls[i]=x:=⟨_,rfl⟩
  obtain⟨y,hy⟩:∃y,ls2[i]=y:=⟨_,rfl⟩
  have hxy:(!(V3 ls[(⟨i,hi⟩:Fin ls.length)] ls2[i]))=(!(V3 x y)):=by rw[←hx,←hy];rfl
  rw[hxy]at hgo hre
  rw[hx]at hlt Zf
  rw[hy]at hd2
  obtain⟨xn,xk,xv,xr⟩:=x
  obtain⟨yn,yk,yv,yr⟩:=y
  simp only at hlt
  have i0:=fun A=>CY G (xs:=xv) (ys:=yv) (A:=A) (t1:=none) (t2:=none) rfl rfl rfl rfl (by omega)
  simp only[Loc.cells,Qy,cF,cI]at Zf hd2
  refine Qd (fun env ds B''=>ds=[]∧env 2=.ptr p 0∧env 3=.ptr q 0∧env 5=i64 i∧Z7 B B''∧∃c d,env 6=.ptr c 0∧env 7=.ptr d 0∧B'' c=some (.cells [.str xn,i64 xk,.slice 4 xv.length (xv.flatMap Test.cells) none,i64 xr])∧B'' d=some (.cells [.str yn,i64 yk,.slice 4 yv.length (yv.flatMap Test.cells) none,i64 yr])) ?_ ?_
  ·simp only[e2,e3,e5,hp,hq,Zf,hd2,i1,i2,Q1,seval]
   constructor
   ·intro c hc
    have npc:=Q6 hp hc
    have nqc:=Q6 hq hc
    simp only[Q5 npc,Q5 nqc,hp,hq,QW,Q1,seval]
    intro d hd
    obtain⟨ndc,hd⟩:=Q9 hd
    have npd:=Q6 hp hd
    have nqd:=Q6 hq hd
    have ncd:=ndc.symm
    simp only[Q5 npc,Q5 nqc,Q5 npd,Q5 nqd,Q5 ncd,Q5 ndc,Q0,hp,hq,QW,Q1,seval]
    have bc:=hO'.gone hc
    have bd:=hO'.gone hd
    exact⟨e2,e3,e5,(((hO'.set bc (by simp)).set bd (by simp)).set bc (by simp)).set bd (by simp),c,d,rfl,rfl,by rw[Q5 ncd,Q0],Q0 ..⟩
   ·intro c hc
    have npc:=Q6 hp hc
    have nqc:=Q6 hq hc
    simp only[Q5 npc,Q5 nqc,hp,hq,QW,Q1,seval]
    intro d hd
    obtain⟨ndc,hd⟩:=Q9 hd
    have npd:=Q6 hp hd
    have nqd:=Q6 hq hd
    have ncd:=ndc.symm
    simp only[Q5 npc,Q5 nqc,Q5 npd,Q5 nqd,Q5 ncd,Q5 ndc,Q0,hp,hq,QW,Q1,seval]
    have bc:=hO'.gone hc
    have bd:=hO'.gone hd
    exact⟨e2,e3,e5,((hO'.set bc (by simp)).set bd (by simp)).set bc (by simp),d,c,rfl,rfl,by rw[Q5 ndc,Q0],Q0 ..⟩
  clear e2 e3 e5 hO' hp hq Zf hd2
  rintro env ds B'' ⟨rfl,e2,e3,e5,hO',c,d,e6,e7,hc,hd⟩
  simp only[e2,e3,e5,e6,e7,hc,hd,Q1,seval]
  refine⟨fun h1=>⟨fun h2=>⟨fun h3=>Q2 (i0 _) ?_,fun h=>hre (by simp [V3,h]) _ _ rfl hO'⟩,fun h=>hre (by simp [V3,h]) _ _ rfl hO'⟩,fun h=>hre (by simp [V3,h]) _ _ rfl hO'⟩
  cases g0:Zt Uu xv yv with
  |false=>
   simp only[Q1,seval]
   exact hre (by simp [V3,g0]) _ _ rfl hO'
  |true=>
   simp only[Q1,seval]
   exact hgo (by simp [V3,g0,h1,h2,h3]) _ _ ⟨e2,e3⟩ e5 hO'
 ·rintro i hi hw env B' s ⟨e2,e3⟩ e5
  simp only[e2,e3,e5,hw,Q1,seval]
 ·rintro i hi env B' hO' e4
  simp only[e4,Q1,seval]
  exact Qb (by simp [V2,Xg g3 i hi]) (Z7.trans hO hO')
 rintro hS env B' ⟨e2,e3⟩ hO'
 have g5:=Xf g3 hS
 have hO:=Z7.trans hO hO'
 have hp:=hO'.keep hp
 have hq:=hO'.keep hq
 clear hS hO'
 simp only[Q1,seval]
 refine UD (v:=8) es.length (fun i=> !(ZZ es[i] (es2[i.val]'(by have:=i.isLt;omega)))) (fun env=>env 2=.ptr p 0∧env 3=.ptr q 0) (.refl B') ⟨e2,e3⟩ rfl (by omega) ?_ ?_ ?_ ?_ ?_
 ·rintro i env B' s hi ⟨e2,e3⟩ e5 hO'
  have hp:=hO'.keep hp
  simp only[e2,e3,e5,hp,Q1,seval]
  exact U7 hO'
 ·rintro i hi env B' s ⟨e2,e3⟩ e5 hO'
  have hp:=hO'.keep hp
  have hq:=hO'.keep hq
  have Zf:=J6 (enc:=Edge.cells) (sz:=13) Edge.cells_len hi
  have hd2:=J6 (enc:=Edge.cells) (sz:=13) Edge.cells_len (xs:=es2) (i:=i) (by omega)
  have i1:(i:Int)<es.length:=by omega
  have i2:(i:Int)<es2.length:=by omega
  simp only[e2,e3,e5,hp,hq,Zf,hd2,i1,i2,Edge.cells_len,Q1,seval]
  refine Q2 (k101 G es[i] es2[i] (y6 _ (cV hi))) ?_
  simp only[e2,e3,e5,hp,hq,QW,Q1,seval]
  exact⟨rfl,hO'⟩
 ·rintro i hi hw env B' s ⟨e2,e3⟩ e5
  simp only[e2,e3,e5,hw,Q1,seval]
 ·rintro i hi env B' hO' e4
  simp only[e4,Q1,seval]
  exact Qb (by simp [V2,Xg g4 i hi]) (Z7.trans hO hO')
 ·rintro hi env B' _ hO'
  simp only[Q1,seval]
  exact Qb (by simp [V2,g1,g2,g5,Xf g4 hi]) (Z7.trans hO hO')
theorem n11 (a b:Model){A:Q3}(h:LtM a):Qu Tryz.prog G 11 [.agg a.cells,.agg b.cells] A (bo (Yg a b)) A:=by
 obtain⟨n,cl,vs,ch,fs,ps⟩:=a
 obtain⟨n2,cl2,vs2,ch2,fs2,ps2⟩:=b
 obtain⟨y1,y2,y3,y4,y5,y6,y7,y8,y9,y10,y11,y12⟩:=h
 simp only at y1 y2 y3 y4 y5 y6 y7 y8 y9 y10 y11 y12
 refine Q4 l11 (fE rfl) ?_
 unfold C11
 refine VT rfl rfl fun p q env B e2 e3 hp hq hO=> ?_
 simp only[Model.cells,Qy]at hp hq
 simp only[e2,e3,hp,hq,Q1,seval]
 refine⟨fun h1=>Q2 (k33 G (xs:=cl) (ys:=cl2) rfl rfl rfl rfl (by omega)) ?_,fun h1=>Qb (by simp [Yg,h1]) hO⟩
 cases g0:Zt (fun a b=>a==b) cl cl2 with
 |false=>
  simp only[e2,e3,hp,hq,Q1,seval]
  exact Qb (by simp [Yg,g0]) hO
 |true=>
 simp only[e2,e3,hp,hq,Q1,seval]
 refine⟨fun g1=>⟨fun g2=>Q2 (k34 G fs fs2 (by omega) y9) ?_,fun h=>Qb (by simp [Yg,UC (p:=X5) (show ch.length≠ch2.length by omega)]) hO⟩,fun h=>Qb (by simp [Yg,UC (p:=Wd) (show vs.length≠vs2.length by omega)]) hO⟩
 cases g3:Zt Uv fs fs2 with
 |false=>
  simp only[e2,e3,hp,hq,Q1,seval]
  exact Qb (by simp [Yg,g3]) hO
 |true=>
 simp only[e2,e3,hp,hq,Q1,seval]
 refine⟨fun g4=> ?_,fun h=>Qb (by simp [Yg,UC (p:=V2) (show ps.length≠ps2.length by omega)]) hO⟩
 have g1:vs.length=vs2.length:=by omega
 have g2:ch.length=ch2.length:=by omega
 have g4:ps.length=ps2.length:=by omega
 refine UD (v:=5) vs.length (fun i=> !(Wd vs[i] (vs2[i.val]'(by have:=i.isLt;omega)))) (fun env=>env 2=.ptr p 0∧env 3=.ptr q 0) (.refl B) ⟨e2,e3⟩ rfl (by omega) ?_ ?_ ?_ ?_ ?_
 ·rintro i env B' s hi ⟨e2,e3⟩ e5 hO'
  have hp:=hO'.keep hp
  simp only[e2,e3,e5,hp,Q1,seval]
  exact U7 hO'
 ·rintro i hi env B' s ⟨e2,e3⟩ e5 hO'
  have hp:=hO'.keep hp
  have hq:=hO'.keep hq
  have Zf:=J6 (enc:=Var.cells) (sz:=4) (fun _=>rfl) hi
  have hd2:=J6 (enc:=Var.cells) (sz:=4) (fun _=>rfl) (xs:=vs2) (i:=i) (by omega)
  have i1:(i:Int)<vs.length:=by omega
  have i2:(i:Int)<vs2.length:=by omega
  simp only[e2,e3,e5,hp,hq,Zf,hd2,i1,i2,Var.cells,Q1,seval]
  rw[show Qf .neq (.struct [.s,.i,.i,.i]) (.agg [.str vs[i].name,i64 vs[i].low,i64 vs[i].high,i64 vs[i].init]) (.agg [.str vs2[i].name,i64 vs2[i].low,i64 vs2[i].high,i64 vs2[i].init])=some (bo !(Wd vs[i] vs2[i]))from eqV]
  simp only[e2,e3,e5,hp,hq,QW,Q1,seval]
  exact⟨rfl,hO'⟩
 ·rintro i hi hw env B' s ⟨e2,e3⟩ e5
  simp only[e2,e3,e5,hw,Q1,seval]
 ·rintro i hi env B' hO' e4
  simp only[e4,Q1,seval]
  exact Qb (by simp [Yg,Xg g1 i hi]) (Z7.trans hO hO')
 rintro hS env B' ⟨e2,e3⟩ hO'
 have g5:=Xf g1 hS
 have hO:=Z7.trans hO hO'
 have hp:=hO'.keep hp
 have hq:=hO'.keep hq
 clear hS hO'
 simp only[Q1,seval]
 generalize B'=B at*
 refine UD (v:=6) ch.length (fun i=> !(X5 ch[i] (ch2[i.val]'(by have:=i.isLt;omega)))) (fun env=>env 2=.ptr p 0∧env 3=.ptr q 0) (.refl B) ⟨e2,e3⟩ rfl (by omega) ?_ ?_ ?_ ?_ ?_
 ·rintro i env B' s hi ⟨e2,e3⟩ e5 hO'
  have hp:=hO'.keep hp
  simp only[e2,e3,e5,hp,Q1,seval]
  exact U7 hO'
 ·rintro i hi env B' s ⟨e2,e3⟩ e5 hO'
  have hp:=hO'.keep hp
  have hq:=hO'.keep hq
  have Zf:=J6 (enc:=Chan.cells) (sz:=3) (fun _=>rfl) hi
  have hd2:=J6 (enc:=Chan.cells) (sz:=3) (fun _=>rfl) (xs:=ch2) (i:=i) (by omega)
  have i1:(i:Int)<ch.length:=by omega
  have i2:(i:Int)<ch2.length:=by omega
  simp only[e2,e3,e5,hp,hq,Zf,hd2,i1,i2,Chan.cells,Q1,seval]
  rw[show Qf .neq (.struct [.s,.b,.b]) (.agg [.str ch[i].name,bo ch[i].broadcast,bo ch[i].urgent]) (.agg [.str ch2[i].name,bo ch2[i].broadcast,bo ch2[i].urgent])=some (bo !(X5 ch[i] ch2[i]))from Ba]
  simp only[e2,e3,e5,hp,hq,QW,Q1,seval]
  exact⟨rfl,hO'⟩
 ·rintro i hi hw env B' s ⟨e2,e3⟩ e5
  simp only[e2,e3,e5,hw,Q1,seval]
 ·rintro i hi env B' hO' e4
  simp only[e4,Q1,seval]
  exact Qb (by simp [Yg,Xg g2 i hi]) (Z7.trans hO hO')
 rintro hS env B' ⟨e2,e3⟩ hO'
 have g6:=Xf g2 hS
 have hO:=Z7.trans hO hO'
 have hp:=hO'.keep hp
 have hq:=hO'.keep hq
 clear hS hO'
 simp only[Q1,seval]
 generalize B'=B at*
 refine UD (v:=7) ps.length (fun i=> !(V2 ps[i] (ps2[i.val]'(by have:=i.isLt;omega)))) (fun env=>env 2=.ptr p 0∧env 3=.ptr q 0) (.refl B) ⟨e2,e3⟩ rfl (by omega) ?_ ?_ ?_ ?_ ?_
 ·rintro i env B' s hi ⟨e2,e3⟩ e5 hO'
  have hp:=hO'.keep hp
  simp only[e2,e3,e5,hp,Q1,seval]
  exact U7 hO'
 ·rintro i hi env B' s ⟨e2,e3⟩ e5 hO'
  have hp:=hO'.keep hp
  have hq:=hO'.keep hq
  have Zf:=J6 (enc:=Proc.cells) (sz:=4) (fun _=>rfl) hi
  have hd2:=J6 (enc:=Proc.cells) (sz:=4) (fun _=>rfl) (xs:=ps2) (i:=i) (by omega)
  have i1:(i:Int)<ps.length:=by omega
  have i2:(i:Int)<ps2.length:=by omega
  simp only[e2,e3,e5,hp,hq,Zf,hd2,i1,i2,Proc.cells,Q1,seval]
  refine Q2 (k35 G ps[i] ps2[i] (y12 _ (cV hi))) ?_
  simp only[e2,e3,e5,hp,hq,QW,Q1,seval]
  exact⟨rfl,hO'⟩
 ·rintro i hi hw env B' s ⟨e2,e3⟩ e5
  simp only[e2,e3,e5,hw,Q1,seval]
 ·rintro i hi env B' hO' e4
  simp only[e4,Q1,seval]
  exact Qb (by simp [Yg,Xg g4 i hi]) (Z7.trans hO hO')
 ·rintro hi env B' _ hO'
  simp only[Q1,seval]
  exact Qb (by simp [Yg,h1,g0,g3,g5,g6,Xf g4 hi]) (Z7.trans hO hO')
end
def P8 (A:Q3):Out→Q3→Prop:=fun o A1=>(∃t,o=.ret (bo t))∧A1=A
def EH (A:Q3):Out→Q3→Prop:=fun o A1=>(∃n:Int,o=.ret (i64 n))∧A1=A
theorem Tr {A B:Q3}{t:Bool}(h:Z7 A B):Vl (some (bo t)) (P8 A) B:=J0 (Wk.refl _) h.wk ⟨⟨t,rfl⟩,rfl⟩
theorem finI {A B:Q3}{n:Int}(h:Z7 A B):Vl (some (i64 n)) (EH A) B:=J0 (Wk.refl _) h.wk ⟨⟨n,rfl⟩,rfl⟩
theorem Ri {C:Cx}{hd st body:LC}{c j j1:Nat}{s:List Fr}{env:Qo}{B:Q3}(n:Nat)(R:Nat→Qo→Q3→Prop)(h0:R 0 env B)
 (hhd:∀i env B s,i≤n→R i env B→C.run hd (.post (fun env' ds B'=>ds=[]∧(∃t,env' c=bo t∧(t=true→i<n))∧R i env' B')::s) env [] B)
 (hbody:∀i env B FR,i<n→R i env B→(∀env ds B,C.ex .ret FR env ds B=C.ex .ret s env ds B)→C.run (.seq (.block j1 body) st) (.post (fun env' ds B'=>ds=[]∧R (i+1) env' B')::FR) env [] B)
 (hend:∀i env B,R i env B→C.ex .normal s env [] B):
 C.run (.block j (.loop (.seq (.seq hd (.cond (.tmp c) .skip (.exit j))) (.seq (.block j1 body) st)))) s env [] B:=by
 rw[Xh]
 refine Qv (fun k env ds B=>∃i,k=n - i∧i≤n∧ds=[]∧R i env B) n ⟨0,by omega,by omega,rfl,h0⟩ ?_
 rintro k env ds B ⟨i,rfl,hi,rfl,hR⟩
 refine Qd (fun env ds B=>ds=[]∧i<n∧R i env B) ?_ ?_
 ·refine Qd _ (hhd i env B _ hi hR) ?_
  rintro env ds B ⟨rfl,⟨t,hc,ht⟩,hR⟩
  cases t with
  |true=>
   simp only[hc,QJ,seval]
   exact⟨ht rfl,hR⟩
  |false=>
   simp only[hc,QJ,seval]
   exact hend _ _ _ hR
 ·rintro env ds B ⟨rfl,h,hR⟩
  have h2:=hbody i env B (.post (fun env ds A=>∃m,m<n - i∧∃i',m=n - i'∧i'≤n∧ds=[]∧R i' env A)::.blk j::s) h hR fun env ds B=>by simp only[QJ,seval]
  refine Vz _ _ _ (fun e env ds A h3=> ?_) env [] B h2
  cases e with
  |normal=>
   obtain⟨rfl,h3⟩:=h3
   exact⟨n - (i+1),by omega,i+1,rfl,h,rfl,h3⟩
  |exit j=>exact h3
  |ret=>exact h3
theorem TK {a b:Nat}{x y:Int}{R:Prop}(h:R):((a:Int)<b→(x≤y→(∃t,AV.raw (.bool true)=bo t∧(t=true→a<b))∧R)∧(¬x≤y→(∃t,AV.raw (.bool false)=bo t∧(t=true→a<b))∧R))∧(¬(a:Int)<b→(∃t,AV.raw (.bool false)=bo t∧(t=true→a<b))∧R):=
 ⟨fun h1=>⟨fun _=>⟨⟨true,rfl,fun _=>by omega⟩,h⟩,fun _=>⟨⟨false,rfl,fun h=>by cases h⟩,h⟩⟩,fun _=>⟨⟨false,rfl,fun h=>by cases h⟩,h⟩⟩
theorem lt_some {a b:Nat}{R:Prop}(h:R):((a:Int)<b→(∃t,AV.raw (.bool true)=bo t∧(t=true→a<b))∧R)∧(¬(a:Int)<b→(∃t,AV.raw (.bool false)=bo t∧(t=true→a<b))∧R):=
 ⟨fun h1=>⟨⟨true,rfl,fun _=>by omega⟩,h⟩,fun _=>⟨⟨false,rfl,fun h=>by cases h⟩,h⟩⟩
section
variable (G:Nat→Option (List AV))
theorem k36 (xs:List Bs)(most:Int){A:Q3}(hl:xs.length<2^60):Qt Tryz.prog G 36 [.slice 1 xs.length (xs.flatMap Zl) none,i64 most] A (P8 A):=by
 refine Q4 l36 (fE rfl) ?_
 unfold C36
 simp only[Q1,seval]
 refine Ri xs.length (fun i env B=>env 0=.slice 1 xs.length (xs.flatMap Zl) none∧env 1=i64 most∧env 6=i64 i∧B=A∧∃m:Int,env 5=i64 m) ⟨rfl,rfl,rfl,rfl,0,rfl⟩ ?_ ?_ ?_
 ·rintro i env B s hi ⟨e0,e1,e6,rfl,m,e5⟩
  simp only[e0,e1,e5,e6,Q1,seval]
  exact TK ⟨m,rfl⟩
 ·rintro i env B FR hi ⟨e0,e1,e6,rfl,m,e5⟩ _
  have Zf:=KE (enc:=Zl) (fun _=>rfl) hi
  have i1:(i:Int)<xs.length:=by omega
  have hw:IntKind.i64.wrap ((i:Int)+1)=((i+1:Nat):Int):=by rw[Qg (by omega) (by omega)];simp
  simp only[e0,e1,e5,e6,Zf,Nat.mul_one,i1,Zl,hw,Q1,seval]
  exact⟨_,rfl⟩
 ·rintro i env B ⟨e0,e1,e6,rfl,m,e5⟩
  simp only[e0,e1,e5,Q1,seval]
  exact⟨fun _=>Tr (.refl _),fun _=>⟨fun _=>Tr (.refl _),fun _=>Tr (.refl _)⟩⟩
theorem k72 (x:Exp)(left:Int){A:Q3}(h:VS x):Qt Tryz.prog G 72 [.agg x.cells,i64 left] A (EH A):=by
 generalize hn:SizeOf.sizeOf x=sz
 induction sz using Nat.strongRecOn generalizing x left A with
 |_ sz ih=>
 obtain⟨k,n,i,xs⟩:=x
 simp only[VS]at h
 refine Q4 l72 (fE rfl) ?_
 unfold C72
 simp only[Exp.cells,Exp.cellsL_eq,Q1,seval]
 intro p hp
 have hO:Z7 A (A.upd p (some (.cells [i64 k,.str n,i64 i,.slice 4 xs.length (xs.flatMap Exp.cells) none]))):=(Z7.refl A).set hp (by simp)
 have hp:(A.upd p (some (.cells [i64 k,.str n,i64 i,.slice 4 xs.length (xs.flatMap Exp.cells) none]))) p=some (.cells [i64 k,.str n,i64 i,.slice 4 xs.length (xs.flatMap Exp.cells) none]):=Q0 ..
 generalize A.upd p (some (.cells [i64 k,.str n,i64 i,.slice 4 xs.length (xs.flatMap Exp.cells) none]))=B at*
 refine Ri xs.length (fun i env B'=>env 2=.ptr p 0∧env 5=i64 i∧B'=B∧∃m:Int,env 1=i64 m) ⟨rfl,rfl,rfl,_,rfl⟩ ?_ ?_ ?_
 ·rintro i env B s hi ⟨e2,e5,rfl,m,e1⟩
  simp only[e2,e1,e5,hp,Q1,seval]
  exact TK ⟨m,rfl⟩
 ·rintro i env B FR hi ⟨e2,e5,rfl,m,e1⟩ _
  have Zf:=J6 (enc:=Exp.cells) (sz:=4) Exp.cells_len hi
  have i1:(i:Int)<xs.length:=by omega
  have hw:IntKind.i64.wrap ((i:Int)+1)=((i+1:Nat):Int):=by rw[Qg (by omega) (by omega)];simp
  simp only[e2,e1,e5,hp,Zf,i1,Q1,seval]
  refine Qk (ih (SizeOf.sizeOf xs[i]) ?_ xs[i] m (Xd h.2.2 _ (cV _)) rfl) ?_
  ·have:=cY (cV hi)
   rw[←hn];simp only[Exp.mk.sizeOf_spec];omega
  rintro o B ⟨⟨m',rfl⟩,rfl⟩
  simp only[e2,e1,e5,hw,Q1,seval]
  exact⟨_,rfl⟩
 ·rintro i env B ⟨e2,e5,rfl,m,e1⟩
  simp only[e1,Q1,seval]
  exact finI hO
theorem M5 (x:Exp)(most:Int){A:Q3}(h:VS x):Qt Tryz.prog G 19 [.agg x.cells,i64 most] A (P8 A):=by
 refine Q4 l19 (fE rfl) ?_
 have i0:=fun A=>k72 G x most (A:=A) h
 obtain⟨k,n,i,xs⟩:=x
 simp only[Exp.cells]at i0
 unfold C19
 simp only[Exp.cells,Q1,seval]
 intro p hp
 have hO:Z7 A (A.upd p (some (.cells [i64 k,.str n,i64 i,.slice 4 xs.length (Exp.cellsL xs) none]))):=(Z7.refl A).set hp (by simp)
 have hp:(A.upd p (some (.cells [i64 k,.str n,i64 i,.slice 4 xs.length (Exp.cellsL xs) none]))) p=some (.cells [i64 k,.str n,i64 i,.slice 4 xs.length (Exp.cellsL xs) none]):=Q0 ..
 generalize A.upd p (some (.cells [i64 k,.str n,i64 i,.slice 4 xs.length (Exp.cellsL xs) none]))=B at*
 refine Qk (i0 _) ?_
 rintro o B ⟨⟨m',rfl⟩,rfl⟩
 simp only[Q1,seval]
 exact⟨fun _=>Tr hO,fun _=>Tr hO⟩
end
end Go.Proofs.YtcbjbgaefighcaaGreatDoor
