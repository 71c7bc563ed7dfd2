/- Part 34 of the proof. -/
import Derived.Test.YtcbjbgaefighcaaGreatDoorT0
import Derived.Test.YtcbjbgaefighcaaGreatDoorT7
import Derived.Test.YtcbjbgaefighcaaGreatDoorT26
import Derived.Test.YtcbjbgaefighcaaGreatDoorT27
import Derived.Test.YtcbjbgaefighcaaGreatDoorT32
import Derived.Test.YtcbjbgaefighcaaGreatDoorT33
set_option linter.all false
namespace Go.Proofs.YtcbjbgaefighcaaGreatDoor
open Go Go.Ax Go.Proofs
theorem Uv {C:Cx}{hd st body:LC}{c j j1:Nat}{s:List Fr}{env:Qn}{B:Q2}(n:Nat)(R:Nat→Qn→Q2→Prop)(h0:R 0 env B)
 (hhd:∀i env B s,i≤n→R i env B→C.run hd (.post (fun env' ds B'=>ds=[]∧env' c=bo (decide (i<n))∧R i env' B')::s) env [] B)
 (hbody:∀i env B FR,i<n→R i env B→(∀env ds B,C.ex .ret FR env ds B=C.ex .ret s env ds B)→C.run (.seq (.block j1 body) st) (.post (fun env' ds B'=>ds=[]∧R (i+1) env' B')::FR) env [] B)
 (hend:∀env B,R n env B→C.ex .normal s env [] B):
 C.run (.block j (.loop (.seq (.seq hd (.cond (.tmp c) .skip (.exit j))) (.seq (.block j1 body) st)))) s env [] B:=by
 rw[YJ]
 refine Qt (fun k env ds B=>∃i,k=n - i∧i≤n∧ds=[]∧R i env B) n ⟨0,by omega,by omega,rfl,h0⟩ ?_
 rintro k env ds B ⟨i,rfl,hi,rfl,hR⟩
 refine Qa (fun env ds B=>ds=[]∧i<n∧R i env B) ?_ ?_
 ·refine Qa _ (hhd i env B _ hi hR) ?_
  rintro env ds B ⟨rfl,hc,hR⟩
  by_cases h:i<n
  ·rw[fA h]at hc
   simp only[hc,h,QI,seval]
   exact hR
  ·rw[fB h]at hc
   have:i=n:=by omega
   subst this
   simp only[hc,QI,seval]
   exact hend _ _ hR
 ·rintro env ds B ⟨rfl,h,hR⟩
  have h2:=hbody i env B (.post (fun env ds A=>∃m,m<n - i∧∃i',m=n - i'∧i'≤n∧ds=[]∧R i' env A)::.blk j::s) h hR fun env ds B=>by simp only[QI,seval]
  refine YP _ _ _ (fun e env ds A h3=> ?_) env [] B h2
  cases e with
  |normal=>
   obtain⟨rfl,h3⟩:=h3
   exact⟨n - (i+1),by omega,i+1,rfl,h,rfl,h3⟩
  |exit j=>exact h3
  |ret=>exact h3
theorem Za {α:Type}{enc:α→List AV}{sz:Nat}(hs:∀a,(enc a).length=sz){xs:List α}{i:Nat}(h:i<xs.length):(xs.flatMap enc).drop (i*sz)=enc xs[i]++(xs.drop (i+1)).flatMap enc:=by
 have:=Z6 hs (xs.take i) (xs.drop i)
 rw[fY,List.length_take_of_le (by omega)]at this
 rw[this,dP h,dD]
theorem OM {α:Type}{enc:α→List AV}(hs:∀a,(enc a).length=1){xs:List α}{i:Nat}(h:i<xs.length):(xs.flatMap enc).drop i=enc xs[i]++(xs.drop (i+1)).flatMap enc:=by
 have:=Za hs h
 rwa [Nat.mul_one]at this
theorem NE {α:Type}{p:α→α→Bool}{xs ys:List α}{i:Nat}(h1:i<xs.length)(h2:i<ys.length):Zi p (xs.take (i+1)) (ys.take (i+1))=(Zi p (xs.take i) (ys.take i)&&p xs[i] ys[i]):=by
 rw[dJ h1,dJ h2,HC (by simp;omega)]
 simp [Zi]
theorem TE {α:Type}{p:α→α→Bool}{xs ys:List α}{i:Nat}(h1:i<xs.length)(h2:i<ys.length)(h:p xs[i] ys[i]=false):Zi p xs ys=false:=by
 have e1:xs=xs.take i++xs[i]::xs.drop (i+1):=by rw[←dP h1,fY]
 have e2:ys=ys.take i++ys[i]::ys.drop (i+1):=by rw[←dP h2,fY]
 rw[e1,e2,HC (by simp;omega)]
 simp [Zi,h]
theorem VQ {α:Type}{p:α→α→Bool}{xs ys:List α}(h:xs.length≠ys.length):Zi p xs ys=false:=by
 cases h2:Zi p xs ys with
 |false=>rfl
 |true=>exact absurd (Kp h2) h
theorem Fi {α:Type}{p:α→α→Bool}{xs ys:List α}(h:Zi p (xs.take (min xs.length ys.length)) (ys.take (min xs.length ys.length))=true):Zi p xs ys=decide (xs.length=ys.length):=by
 by_cases e:xs.length=ys.length
 ·rw[←e,Nat.min_self,fT,e,fT]at h
  rw[h,fA e]
 ·rw[VQ e,fB e]
theorem Ms {C:Cx}{hd body st:LC}{c j j1 r v:Nat}{w:Bool}{s:List Fr}{env:Qn}{B B0:Q2}(n:Nat)(q:Fin n→Bool)(P:Qn→Prop)(hO:QQ B0 B)(hP:P env)(hv:env v=i64 0)(hn:n<2^62)
 (hhd:∀i env B s,i≤n→P env→env v=i64 i→QQ B0 B→C.run hd (.post (fun env' ds B'=>ds=[]∧env' c=bo (decide (i<n))∧P env'∧env' v=i64 i∧QQ B0 B')::s) env [] B)
 (hb:∀(i:Nat) (h:i<n) env B FR,P env→env v=i64 i→QQ B0 B→
  (q ⟨i,h⟩=false→∀env' B',P env'→env' v=i64 i→QQ B0 B'→C.ex .normal FR env' [] B')→(q ⟨i,h⟩=true→∀env' B',env' r=bo w→QQ B0 B'→C.ex .ret FR env' [] B')→C.run body FR env [] B)
 (hst:∀(i:Nat) (_:i<n) (_:IntKind.i64.wrap ((i:Int)+1)=((i+1:Nat):Int)) env B s,P env→env v=i64 i→C.run st (.post (fun env' ds B'=>ds=[]∧P env'∧env' v=i64 (i+1:Nat)∧B'=B)::s) env [] B)
 (hbad:∀i,q i=true→∀env B,QQ B0 B→env r=bo w→C.ex .ret s env [] B)
 (hgood:(∀i,q i=false)→∀env B,P env→QQ B0 B→C.ex .normal s env [] B):
 C.run (.block j (.loop (.seq (.seq hd (.cond (.tmp c) .skip (.exit j))) (.seq (.block j1 body) st)))) s env [] B:=by
 refine Uv n (fun i env B=>P env∧env v=i64 i∧QQ B0 B∧∀i':Fin n,i'<i→q i'=false) ⟨hP,hv,hO,fun i' h=>absurd h (by omega)⟩ ?_ ?_ ?_
 ·rintro i env B s hi ⟨hP,hv,hO,hq⟩
  refine YP _ _ _ (fun e env ds A h3=> ?_) env [] B (hhd i env B s hi hP hv hO)
  cases e with
  |normal=>exact⟨h3.1,h3.2.1,h3.2.2.1,h3.2.2.2.1,h3.2.2.2.2,hq⟩
  |exit j=>exact h3
  |ret=>exact h3
 ·rintro i env B FR hi ⟨hP,hv,hO,hq⟩ hret
  rw[Wl,YJ]
  refine hb i hi env B _ hP hv hO (fun hqi env' B' hP hv hO=> ?_) (fun hqi env' B' hr hO=> ?_)
  ·simp only[QI,seval]
   refine YP _ _ _ (fun e env ds A h3=> ?_) env' [] B' (hst i hi (by rw[Qf (by omega) (by omega)];simp) env' B' FR hP hv)
   cases e with
   |normal=>
    obtain⟨rfl,h1,h2,rfl⟩:=h3
    exact⟨rfl,h1,h2,hO,fun i' h=>by
     rcases fH i'.val i with h|h
     ·exact hq i' h
     ·have:i'=⟨i,hi⟩:=Fin.ext (by simp only;omega)
      rw[this];exact hqi⟩
   |exit j=>exact h3
   |ret=>exact h3
  ·simp only[hret,QI,seval]
   exact hbad _ hqi _ _ hO hr
 ·rintro env B ⟨hP,hv,hO,hq⟩
  exact hgood (fun i=>hq i i.isLt) env B hP hO
theorem X1 {C:Cx}{hd D st:LC}{c j j1 k r v:Nat}{w:Bool}{s:List Fr}{env:Qn}{B B0:Q2}(n:Nat)(q:Fin n→Bool)(P:Qn→Prop)(hO:QQ B0 B)(hP:P env)(hv:env v=i64 0)(hn:n<2^62)
 (hhd:∀i env B s,i≤n→P env→env v=i64 i→QQ B0 B→C.run hd (.post (fun env' ds B'=>ds=[]∧env' c=bo (decide (i<n))∧P env'∧env' v=i64 i∧QQ B0 B')::s) env [] B)
 (hD:∀(i:Nat) (h:i<n) env B s,P env→env v=i64 i→QQ B0 B→C.run D (.post (fun env' ds B'=>ds=[]∧env' k=bo (q ⟨i,h⟩)∧P env'∧env' v=i64 i∧QQ B0 B')::s) env [] B)
 (hst:∀(i:Nat) (_:i<n) (_:IntKind.i64.wrap ((i:Int)+1)=((i+1:Nat):Int)) env B s,P env→env v=i64 i→C.run st (.post (fun env' ds B'=>ds=[]∧P env'∧env' v=i64 (i+1:Nat)∧B'=B)::s) env [] B)
 (hbad:∀i,q i=true→∀env B,QQ B0 B→env r=bo w→C.ex .ret s env [] B)
 (hgood:(∀i,q i=false)→∀env B,P env→QQ B0 B→C.ex .normal s env [] B):
 C.run (.block j (.loop (.seq (.seq hd (.cond (.tmp c) .skip (.exit j))) (.seq (.block j1 (.seq D (.cond (.tmp k) (.seq (.ops [⟨some r,.mv (.const (.bool w)),none⟩]) .ret) .skip))) st)))) s env [] B:=by
 refine Ms (r:=r) (w:=w) n q P hO hP hv hn hhd (fun i h env B FR hP hv hO h1 h2=> ?_) hst hbad hgood
 refine Qa _ (hD i h env B _ hP hv hO) ?_
 rintro env ds B ⟨rfl,hk,hP,hv,hO⟩
 cases hqi:q ⟨i,h⟩with
 |true=>
  rw[hqi]at hk
  simp only[hk,QI,seval]
  exact h2 hqi _ _ (by simp only[Jf,if_true]) hO
 |false=>
  rw[hqi]at hk
  simp only[hk,QI,seval]
  exact h1 hqi _ _ hP hv hO
theorem TD {α:Type}{p:α→α→Bool}:∀{xs ys:List α} (h:xs.length=ys.length),(∀i:Fin xs.length,p xs[i] (ys[i.val]'(by have:=i.isLt;omega))=true)→Zi p xs ys=true
 |[],[],_,_=>rfl
 |x::xs,y::ys,h,hq=>by
  simp only[Zi,cD]
  exact⟨hq ⟨0,by simp⟩,TD (by simpa using h) fun i=>hq ⟨i.val+1,by have:=i.isLt;simp⟩⟩
 |[],_::_,h,_=>by simp at h
 |_::_,[],h,_=>by simp at h
theorem any_fin {α:Type}{f:α→Bool}{xs:List α}:(∀i:Fin xs.length,f xs[i]=false)→xs.any f=false:=fun h=>by
 rw[fM]
 intro x hx
 obtain⟨i,hi,rfl⟩:=List.mem_iff_getElem.1 hx
 rw[cP];exact h ⟨i,hi⟩
theorem CN {α:Type}{f:α→Bool}{xs:List α}(i:Fin xs.length)(h:f xs[i]=true):xs.any f=true:=List.any_eq_true.2 ⟨_,cV _,h⟩
theorem O8 {a b:Nat}:((a:Int)=b→AV.raw (.bool true)=bo (decide (a=b)))∧(¬(a:Int)=b→AV.raw (.bool false)=bo (decide (a=b))):=
 ⟨fun h=>by rw[fA (by omega)],fun h=>by rw[fB (by omega)]⟩
theorem YU {a b:Nat}{R:Prop}(h:R):((a:Int)<b→AV.raw (.bool true)=bo (decide (a<b))∧R)∧(¬(a:Int)<b→AV.raw (.bool false)=bo (decide (a<b))∧R):=
 ⟨fun h1=>⟨by rw[fA (by omega)],h⟩,fun h1=>⟨by rw[fB (by omega)],h⟩⟩
theorem Ul {α:Type}{p:α→α→Bool}{xs ys:List α}(hl:xs.length=ys.length)(i:Fin xs.length)(h:(!(p xs[i] (ys[i.val]'(by have:=i.isLt;omega))))=true):Zi p xs ys=false:=by
 have:=i.isLt
 exact TE (i:=i.val) i.isLt (by omega) (by simpa using h)
theorem Uk {α:Type}{p:α→α→Bool}{xs ys:List α}(h:xs.length=ys.length)(hq:∀i:Fin xs.length,(!(p xs[i] (ys[i.val]'(by have:=i.isLt;omega))))=false):Zi p xs ys=true:=TD h fun i=>by simpa using hq i
theorem NB {a b:Int}:Qg .neq .num (i64 a) (i64 b)=some (bo !(a==b)):=by
 simp only[Qg,Z7,if_true];rfl
theorem OL {a b:Bs}:Qg .neq .num (.str a) (.str b)=some (bo !(a==b)):=rfl
theorem BE {a b:Bool}:Qg .neq .bool (bo a) (bo b)=some (bo !(a==b)):=by cases a <;> cases b <;> rfl
open Go.Ax.K
def CSm (D:Sched)(k:Nat)(tl:LC):LC:=
 .seq (.ops [o 4 (mc (.bool false))])<|.seq (.seq (.ops [o 5 (mc (.int .i64 0))])<|.block 0<|.loop<|.seq (.seq (.ops [o 6 (mv 5),o 7 (mv 0),o 8 (le 7),o 9 (bn .lss 6 8),o 10 (mv 9),gt 10 11 (mv 5),gt 10 12 (mv 1),gt 10 13 (le 12),gt 10 14 (bn .lss 11 13),o 15 (pa 10 14)])<|.cond (t 15) (.skip)<|.exit 0)<|.seq (.block 1<|.seq (.draw D)<|.cond (t k) (.seq (.ops [o 4 (mc (.bool false))])<|.ret)<|.skip)<|.ops [o 16 (mv 5),o 17 (bk .add 16 (1)),o 5 (mv 17)])<|.seq tl<|.ret
section
variable (G:Nat→Option (List AV))
theorem kSm {α:Type}{A:Q2}{f n k sz:Nat}{D:Sched}{tl:LC}(hl:Q9 Tryz.prog f=some ⟨n,false,[.tmp 4],CSm D k tl⟩)(hn:2≤n){xs ys:List α}{enc:α→List AV}{p:α→α→Bool}{t1 t2:Option Nat}(hlen:xs.length<2^62)
 (hD:∀K i env B s,(hx:i<xs.length)→(hy:i<ys.length)→env 0=.slice sz xs.length (xs.flatMap enc) t1→env 1=.slice sz ys.length (ys.flatMap enc) t2→env 5=i64 i→
  (ZA Tryz.prog G false [.tmp 4] K).run (.draw D) (.post (fun env' ds B'=>ds=[]∧env' k=bo !(p xs[i] ys[i])∧env' 0=env 0∧env' 1=env 1∧env' 5=i64 i∧QQ B B')::s) env [] B)
 (ht:∀K env B s,env 0=.slice sz xs.length (xs.flatMap enc) t1→env 1=.slice sz ys.length (ys.flatMap enc) t2→
  (ZA Tryz.prog G false [.tmp 4] K).run tl (.post (fun env' ds B'=>ds=[]∧env' 4=bo (decide (xs.length=ys.length))∧B'=B)::s) env [] B):
 Qz Tryz.prog G f [.slice sz xs.length (xs.flatMap enc) t1,.slice sz ys.length (ys.flatMap enc) t2] A (bo (Zi p xs ys)) A:=by
 refine Q4 hl hn ?_
 unfold CSm
 simp only[Q1,seval]
 refine Uv (min xs.length ys.length) (fun i env B=>env 0=.slice sz xs.length (xs.flatMap enc) t1∧env 1=.slice sz ys.length (ys.flatMap enc) t2∧env 5=i64 i∧QQ A B∧Zi p (xs.take i) (ys.take i)=true) ⟨rfl,rfl,rfl,.refl _,rfl⟩ ?_ ?_ ?_
 ·rintro i env B s hi ⟨e0,e1,e5,hO,hE⟩
  by_cases h1:(i:Int)<xs.length
  ·by_cases h2:(i:Int)<ys.length
   ·simp only[e0,e1,e5,h1,h2,Q1,seval]
    exact⟨by rw[fA (by omega)],hO,hE⟩
   ·simp only[e0,e1,e5,h1,h2,Q1,seval]
    exact⟨by rw[fB (by omega)],hO,hE⟩
  ·simp only[e0,e1,e5,h1,Q1,seval]
   exact⟨by rw[fB (by omega)],hO,hE⟩
 ·rintro i env B FR hi ⟨e0,e1,e5,hO,hE⟩ hret
  have hx:i<xs.length:=by omega
  have hy:i<ys.length:=by omega
  have e3:IntKind.i64.wrap ((i:Int)+1)=((i+1:Nat):Int):=by rw[Qf (by omega) (by omega)];simp
  rw[Wl,YJ]
  refine Qa _ (hD _ i env B _ hx hy e0 e1 e5) ?_
  rintro env' _ B' ⟨rfl,hk,e0',e1',e5',hO'⟩
  rw[e0]at e0'
  rw[e1]at e1'
  have hO':=QQ.trans hO hO'
  have hE':=NE (p:=p) hx hy
  cases hp:p xs[i] ys[i]with
  |false=>
   rw[hp]at hk
   simp only[hk,Q1,seval]
   rw[hret]
   simp only[Q1,seval]
   exact Qb (by rw[TE hx hy hp]) hO'
  |true=>
   rw[hp]at hk
   simp only[hk,e0',e1',e5',e3,Q1,seval]
   exact⟨hO',by rw[hE',hE,hp];rfl⟩
 ·rintro env B ⟨e0,e1,e5,hO,hE⟩
  simp only[Q1,seval]
  refine Sh ?_
  refine Qa _ (ht _ env B _ e0 e1) ?_
  rintro env' _ B' ⟨rfl,e4,rfl⟩
  simp only[e4,Q1,seval]
  exact Qb (by rw[Fi hE]) hO
theorem k33 {xs ys:List Bs}{A:Q2}{n m:Nat}{cs ds:List AV}{t1 t2:Option Nat}(hn:n=xs.length)(hcs:cs=xs.flatMap Zj)(hm:m=ys.length)(hds:ds=ys.flatMap Zj)(hlen:xs.length<2^62):
 Qz Tryz.prog G 33 [.slice 1 n cs t1,.slice 1 m ds t2] A (bo (Zi (fun a b=>a==b) xs ys)) A:=by
 subst hn hcs hm hds
 refine kSm G l33 (fE rfl) (sz:=1) hlen (fun K i env B s hx hy e0 e1 e5=> ?_) (fun K env B s e0 e1=> ?_)
 ·have hd1:=OM (enc:=Zj) (fun _=>rfl) hx
  have hd2:=OM (enc:=Zj) (fun _=>rfl) hy
  have h1:(i:Int)<xs.length:=by omega
  have h2:(i:Int)<ys.length:=by omega
  simp only[e0,e1,e5,hd1,hd2,Nat.mul_one,h1,h2,Zj,Q1,seval]
  rw[show Qg .neq .num (.str xs[i]) (.str ys[i])=some (bo !(xs[i]==ys[i]))from rfl]
  simp only[QK,Q1,seval]
  exact⟨e0,e1,e5,.refl _⟩
 ·simp only[e0,e1,Q1,seval]
  exact O8
theorem FS {xs ys:List Test}{A:Q2}{n m:Nat}{cs ds:List AV}{t1 t2:Option Nat}(hn:n=xs.length)(hcs:cs=xs.flatMap Test.cells)(hm:m=ys.length)(hds:ds=ys.flatMap Test.cells)(hlen:xs.length<2^62):
 Qz Tryz.prog G 100 [.slice 4 n cs t1,.slice 4 m ds t2] A (bo (Zi VI xs ys)) A:=by
 subst hn hcs hm hds
 refine kSm G l100 (fE rfl) (sz:=4) hlen (fun K i env B s hx hy e0 e1 e5=> ?_) (fun K env B s e0 e1=> ?_)
 ·have hd1:=Za (enc:=Test.cells) (sz:=4) (fun _=>rfl) hx
  have hd2:=Za (enc:=Test.cells) (sz:=4) (fun _=>rfl) hy
  have h1:(i:Int)<xs.length:=by omega
  have h2:(i:Int)<ys.length:=by omega
  simp only[e0,e1,e5,hd1,hd2,h1,h2,Test.cells,Q1,seval]
  rw[show Qg .neq (.struct [.s,.b,.b,.i]) (.agg [.str xs[i].clock,bo xs[i].lower,bo xs[i].strict,i64 xs[i].c]) (.agg [.str ys[i].clock,bo ys[i].lower,bo ys[i].strict,i64 ys[i].c])=some (bo !(VI xs[i] ys[i]))from eqT]
  simp only[QK,Q1,seval]
  exact⟨e0,e1,e5,.refl _⟩
 ·simp only[e0,e1,Q1,seval]
  exact O8
theorem k21 (a b:Exp){A:Q2}(h:UA a):Qz Tryz.prog G 21 [.agg a.cells,.agg b.cells] A (bo (JA a b)) A:=by
 generalize hn:SizeOf.sizeOf a=sz
 induction sz using Nat.strongRecOn generalizing a b A with
 |_ sz ih=>
 obtain⟨k,n,i,xs⟩:=a
 obtain⟨k2,n2,i2,ys⟩:=b
 simp only[UA]at h
 refine Q4 l21 (fE rfl) ?_
 unfold C21
 refine YM rfl rfl fun p q env B e2 e3 hp hq hO=> ?_
 simp only[Exp.cells,Exp.cellsL_eq]at hp hq
 simp only[e2,e3,hp,hq,Q1,seval]
 refine⟨fun h1=>⟨fun h2=>⟨fun h3=>⟨fun h4=> ?_,fun h4=>Qb (by simp [JA,XW,VQ (p:=JA) (show xs.length≠ys.length by omega)]) hO⟩,fun h=>Qb (by simp [JA,h]) hO⟩,fun h=>Qb (by simp [JA,h]) hO⟩,fun h=>Qb (by simp [JA,h]) hO⟩
 have h4:xs.length=ys.length:=by omega
 refine X1 (v:=5) xs.length (fun i=> !(JA xs[i] (ys[i.val]'(by have:=i.isLt;omega)))) (fun env=>env 2=.ptr p 0∧env 3=.ptr q 0) (.refl B) ⟨e2,e3⟩ rfl (by omega) ?_ ?_ ?_ ?_ ?_
 ·rintro i env B' s hi ⟨e2,e3⟩ e5 hO'
  have hp:=hO'.keep hp
  simp only[e2,e3,e5,hp,Q1,seval]
  exact YU hO'
 ·rintro i hi env B' s ⟨e2,e3⟩ e5 hO'
  have hp:=hO'.keep hp
  have hq:=hO'.keep hq
  have hd1:=Za (enc:=Exp.cells) (sz:=4) Exp.cells_len hi
  have hd2:=Za (enc:=Exp.cells) (sz:=4) Exp.cells_len (xs:=ys) (i:=i) (by omega)
  have i1:(i:Int)<xs.length:=by omega
  have i2:(i:Int)<ys.length:=by omega
  simp only[e2,e3,e5,hp,hq,hd1,hd2,i1,i2,Q1,seval]
  refine Q3 (ih (SizeOf.sizeOf xs[i]) ?_ xs[i] ys[i] (XF h.2.2 _ (cV _)) rfl) ?_
  ·have:=cY (cV hi)
   rw[←hn];simp only[Exp.mk.sizeOf_spec];omega
  simp only[e2,e3,e5,hp,hq,QK,Q1,seval]
  exact⟨rfl,hO'⟩
 ·rintro i hi hw env B' s ⟨e2,e3⟩ e5
  simp only[e2,e3,e5,hw,Q1,seval]
 ·rintro i hi env B' hO' e4
  simp only[e4,Q1,seval]
  exact Qb (by simp [JA,XW,Ul h4 i hi]) (QQ.trans hO hO')
 ·rintro hi env B' _ hO'
  simp only[Q1,seval]
  exact Qb (by simp [JA,XW,Uk h4 hi,h1,h2,h3]) (QQ.trans hO hO')
theorem k99 (xs ys:List Stmt){A:Q2}(hl:xs.length<2^60)(h:Xx xs):Qz Tryz.prog G 99 [.slice 8 xs.length (Stmt.cellsL xs) none,.slice 8 ys.length (Stmt.cellsL ys) none] A (bo (Zi Ya xs ys)) A:=by
 generalize hn:SizeOf.sizeOf xs=sz
 induction sz using Nat.strongRecOn generalizing xs ys A with
 |_ sz ih=>
 rw[Stmt.cellsL_eq,Stmt.cellsL_eq]
 refine kSm G l99 (fE rfl) (sz:=8) (by omega) (fun K i env B s hx hy e0 e1 e5=> ?_) (fun K env B s e0 e1=> ?_)
 ·have hd1:=Za (enc:=Stmt.cells) (sz:=8) Stmt.cells_len hx
  have hd2:=Za (enc:=Stmt.cells) (sz:=8) Stmt.cells_len hy
  have h1:(i:Int)<xs.length:=by omega
  have h2:(i:Int)<ys.length:=by omega
  have hlt:=VO h _ (cV hx)
  have hsz:=cY (cV hx)
  generalize xs[i]=x at*
  generalize ys[i]=y at*
  obtain⟨k,n,v,b,e⟩:=x
  obtain⟨k2,n2,v2,b2,e2⟩:=y
  simp only[Wp]at hlt
  have i0:=fun A=>k21 G v v2 (A:=A) hlt.2.1
  have i1:=fun A=>ih (SizeOf.sizeOf b) (by simp only[Stmt.mk.sizeOf_spec]at hsz;omega) b b2 (A:=A) hlt.2.2.1 hlt.2.2.2.2.1 rfl
  have i2:=fun A=>ih (SizeOf.sizeOf e) (by simp only[Stmt.mk.sizeOf_spec]at hsz;omega) e e2 (A:=A) hlt.2.2.2.1 hlt.2.2.2.2.2 rfl
  clear ih
  obtain⟨v0,v1,vi,vx⟩:=v
  obtain⟨w0,w1,wi,wx⟩:=v2
  simp only[Exp.cells]at i0
  simp only[Stmt.cells,Exp.cells,cF,cI]at hd1 hd2
  simp only[e0,e1,e5,hd1,hd2,h1,h2,Q1,seval]
  rw[NB]
  cases g0:k==k2 with
  |false=>
   simp only[e0,e1,e5,hd1,hd2,h1,h2,QK,Q1,seval]
   exact⟨by simp [Ya,g0],.refl _⟩
  |true=>
  simp only[e0,e1,e5,hd1,hd2,h1,h2,Q1,seval]
  rw[OL]
  cases g1:n==n2 with
  |false=>
   simp only[e0,e1,e5,hd1,hd2,h1,h2,QK,Q1,seval]
   exact⟨by simp [Ya,g1],.refl _⟩
  |true=>
  simp only[e0,e1,e5,hd1,hd2,h1,h2,Q1,seval]
  refine Q3 (i0 _) ?_
  cases g2:JA (.mk v0 v1 vi vx) (.mk w0 w1 wi wx)with
  |false=>
   simp only[e0,e1,e5,hd1,hd2,h1,h2,QK,Q1,seval]
   exact⟨by simp [Ya,g2],.refl _⟩
  |true=>
  simp only[e0,e1,e5,hd1,hd2,h1,h2,Q1,seval]
  refine Q3 (i1 _) ?_
  cases g3:Zi Ya b b2 with
  |false=>
   simp only[e0,e1,e5,hd1,hd2,h1,h2,QK,Q1,seval]
   exact⟨by simp [Ya,WV,g3],.refl _⟩
  |true=>
  simp only[e0,e1,e5,hd1,hd2,h1,h2,Q1,seval]
  refine Q3 (i2 _) ?_
  simp only[e0,e1,e5,hd1,hd2,h1,h2,QK,Q1,seval]
  exact⟨by simp [Ya,WV,g0,g1,g2,g3],.refl _⟩
 ·simp only[e0,e1,Q1,seval]
  exact O8
theorem k34 (xs ys:List Func){A:Q2}(hl:xs.length<2^60)(h:∀f∈xs,I9 f):Qz Tryz.prog G 34 [.slice 3 xs.length (xs.flatMap Func.cells) none,.slice 3 ys.length (ys.flatMap Func.cells) none] A (bo (Zi VJ xs ys)) A:=by
 refine kSm G l34 (fE rfl) (sz:=3) (by omega) (fun K i env B s hx hy e0 e1 e5=> ?_) (fun K env B s e0 e1=> ?_)
 ·have hd1:=Za (enc:=Func.cells) (sz:=3) (fun _=>rfl) hx
  have hd2:=Za (enc:=Func.cells) (sz:=3) (fun _=>rfl) hy
  have h1:(i:Int)<xs.length:=by omega
  have h2:(i:Int)<ys.length:=by omega
  have hlt:=h _ (cV hx)
  generalize xs[i]=x at*
  generalize ys[i]=y at*
  obtain⟨n,p,b⟩:=x
  obtain⟨n2,p2,b2⟩:=y
  simp only[I9]at hlt
  have i0:=fun A=>k33 G (xs:=p) (ys:=p2) (A:=A) (t1:=none) (t2:=none) rfl rfl rfl rfl (by omega)
  have i1:=fun A=>k99 G b b2 (A:=A) hlt.2.2.2.1 hlt.2.2.2.2
  simp only[Stmt.cellsL_eq]at i1
  simp only[Func.cells,Qr,cF,cI]at hd1 hd2
  simp only[e0,e1,e5,hd1,hd2,h1,h2,Q1,seval]
  rw[OL]
  cases g0:n==n2 with
  |false=>
   simp only[e0,e1,e5,hd1,hd2,h1,h2,QK,Q1,seval]
   exact⟨by simp [VJ,g0],.refl _⟩
  |true=>
  simp only[e0,e1,e5,hd1,hd2,h1,h2,Q1,seval]
  refine Q3 (i0 _) ?_
  cases g1:Zi (fun a b=>a==b) p p2 with
  |false=>
   simp only[e0,e1,e5,hd1,hd2,h1,h2,QK,Q1,seval]
   exact⟨by simp [VJ,g1],.refl _⟩
  |true=>
  simp only[e0,e1,e5,hd1,hd2,h1,h2,Q1,seval]
  refine Q3 (i1 _) ?_
  simp only[e0,e1,e5,hd1,hd2,h1,h2,QK,Q1,seval]
  exact⟨by simp [VJ,g0,g1],.refl _⟩
 ·simp only[e0,e1,Q1,seval]
  exact O8
end
section
variable (G:Nat→Option (List AV))
theorem k101 (a b:Edge){A:Q2}(h:K2 a):Qz Tryz.prog G 101 [.agg a.cells,.agg b.cells] A (bo (ZD a b)) A:=by
 obtain⟨n,d,ts,⟨v0,v1,vi,vx⟩,ch,sd,ss,cs,co,ki⟩:=a
 obtain⟨n2,d2,ts2,⟨w0,w1,wi,wx⟩,ch2,sd2,ss2,cs2,co2,ki2⟩:=b
 simp only[K2,I8]at h
 obtain⟨y1,y2,y3,y4,y5,y6,y7,y8,y9,y10⟩:=h
 have i0:=fun A=>k21 G (.mk v0 v1 vi vx) (.mk w0 w1 wi wx) (A:=A) y5.1
 have i1:=fun A=>FS G (xs:=ts) (ys:=ts2) (A:=A) (t1:=none) (t2:=none) rfl rfl rfl rfl (by omega)
 simp only[Exp.cells]at i0
 refine Q4 l101 (fE rfl) ?_
 unfold DS
 refine YM rfl rfl fun p q env B e2 e3 hp hq hO=> ?_
 simp only[Edge.cells,Exp.cells,Qr,cF,cI]at hp hq
 simp only[e2,e3,hp,hq,Q1,seval]
 refine⟨fun g1=>⟨fun g2=>Q3 (i1 _) ?_,fun h=>Qb (by simp [ZD,h]) hO⟩,fun h=>Qb (by simp [ZD,h]) hO⟩
 cases g3:Zi VI ts ts2 with
 |false=>
  simp only[e2,e3,hp,hq,Q1,seval]
  exact Qb (by simp [ZD,g3]) hO
 |true=>
 simp only[e2,e3,hp,hq,Q1,seval]
 refine Q3 (i0 _) ?_
 cases g4:JA (.mk v0 v1 vi vx) (.mk w0 w1 wi wx)with
 |false=>
  simp only[e2,e3,hp,hq,Q1,seval]
  exact Qb (by simp [ZD,g4]) hO
 |true=>
 simp only[e2,e3,hp,hq,Q1,seval]
 refine⟨fun g5=>⟨fun g6=>⟨fun g7=>⟨fun g8=>⟨fun g9=>⟨fun g10=> ?_,fun h=>Qb (by simp [ZD,VQ (p:=XK) (show cs.length≠cs2.length by omega)]) hO⟩,fun h=>Qb (by simp [ZD,VQ (p:=VK) (show ss.length≠ss2.length by omega)]) hO⟩,fun h=>Qb (by simp [ZD,h]) hO⟩,fun h=>Qb (by simp [ZD,h]) hO⟩,fun h=>Qb (by simp [ZD,h]) hO⟩,fun h=>Qb (by simp [ZD,h]) hO⟩
 have g9:ss.length=ss2.length:=by omega
 have g10:cs.length=cs2.length:=by omega
 refine X1 (v:=5) ss.length (fun i=> !(VK ss[i] (ss2[i.val]'(by have:=i.isLt;omega)))) (fun env=>env 2=.ptr p 0∧env 3=.ptr q 0) (.refl B) ⟨e2,e3⟩ rfl (by omega) ?_ ?_ ?_ ?_ ?_
 ·rintro i env B' s hi ⟨e2,e3⟩ e5 hO'
  have hp:=hO'.keep hp
  simp only[e2,e3,e5,hp,Q1,seval]
  exact YU hO'
 ·rintro i hi env B' s ⟨e2,e3⟩ e5 hO'
  have hp:=hO'.keep hp
  have hq:=hO'.keep hq
  have hd1:=Za (enc:=Assign.cells) (sz:=5) Assign.cells_len hi
  have hd2:=Za (enc:=Assign.cells) (sz:=5) Assign.cells_len (xs:=ss2) (i:=i) (by omega)
  have i1:(i:Int)<ss.length:=by omega
  have i2:(i:Int)<ss2.length:=by omega
  have hlt:=(y8 _ (cV hi)).2.1
  obtain⟨x,hx⟩:∃x,ss[i]=x:=⟨_,rfl⟩
  obtain⟨y,hy⟩:∃y,ss2[i]=y:=⟨_,rfl⟩
  have hxy:bo (!(VK ss[(⟨i,hi⟩:Fin ss.length)] ss2[i]))=bo (!(VK x y)):=by rw[←hx,←hy];rfl
  rw[hxy]
  rw[hx]at hlt hd1
  rw[hy]at hd2
  have i0:=fun A=>k21 G x.val y.val (A:=A) hlt
  obtain⟨xn,x0,x1,xi,xx⟩:=x
  obtain⟨yn,y0,y1,yi,yx⟩:=y
  simp only[Exp.cells]at i0
  simp only[Assign.cells,Exp.cells,cF,cI]at hd1 hd2
  simp only[e2,e3,e5,hp,hq,hd1,hd2,i1,i2,Q1,seval]
  rw[OL]
  cases g0:xn==yn with
  |false=>
   simp only[e2,e3,e5,hp,hq,hd1,hd2,i1,i2,QK,Q1,seval]
   exact⟨by simp [VK,g0],hO'⟩
  |true=>
  simp only[e2,e3,e5,hp,hq,hd1,hd2,i1,i2,Q1,seval]
  refine Q3 (i0 _) ?_
  simp only[e2,e3,e5,hp,hq,QK,Q1,seval]
  exact⟨by simp [VK,g0],hO'⟩
 ·rintro i hi hw env B' s ⟨e2,e3⟩ e5
  simp only[e2,e3,e5,hw,Q1,seval]
 ·rintro i hi env B' hO' e4
  simp only[e4,Q1,seval]
  exact Qb (by simp [ZD,Ul g9 i hi]) (QQ.trans hO hO')
 rintro hS env B' ⟨e2,e3⟩ hO'
 have g11:=Uk g9 hS
 have hO:=QQ.trans hO hO'
 have hp:=hO'.keep hp
 have hq:=hO'.keep hq
 clear hS hO'
 simp only[Q1,seval]
 refine X1 (v:=6) cs.length (fun i=> !(XK cs[i] (cs2[i.val]'(by have:=i.isLt;omega)))) (fun env=>env 2=.ptr p 0∧env 3=.ptr q 0) (.refl B') ⟨e2,e3⟩ rfl (by omega) ?_ ?_ ?_ ?_ ?_
 ·rintro i env B' s hi ⟨e2,e3⟩ e5 hO'
  have hp:=hO'.keep hp
  simp only[e2,e3,e5,hp,Q1,seval]
  exact YU hO'
 ·rintro i hi env B' s ⟨e2,e3⟩ e5 hO'
  have hp:=hO'.keep hp
  have hq:=hO'.keep hq
  have hd1:=Za (enc:=Clear.cells) (sz:=2) (fun _=>rfl) hi
  have hd2:=Za (enc:=Clear.cells) (sz:=2) (fun _=>rfl) (xs:=cs2) (i:=i) (by omega)
  have i1:(i:Int)<cs.length:=by omega
  have i2:(i:Int)<cs2.length:=by omega
  simp only[e2,e3,e5,hp,hq,hd1,hd2,i1,i2,Clear.cells,Q1,seval]
  rw[show Qg .neq (.struct [.s,.i]) (.agg [.str cs[i].clock,i64 cs[i].tv]) (.agg [.str cs2[i].clock,i64 cs2[i].tv])=some (bo !(XK cs[i] cs2[i]))from eqC]
  simp only[e2,e3,e5,hp,hq,QK,Q1,seval]
  exact⟨rfl,hO'⟩
 ·rintro i hi hw env B' s ⟨e2,e3⟩ e5
  simp only[e2,e3,e5,hw,Q1,seval]
 ·rintro i hi env B' hO' e4
  simp only[e4,Q1,seval]
  exact Qb (by simp [ZD,Ul g10 i hi]) (QQ.trans hO hO')
 ·rintro hi env B' _ hO'
  simp only[Q1,seval]
  exact Qb (by simp [ZD,g1,g2,g3,g4,g5,g6,g7,g8,g11,Uk g10 hi]) (QQ.trans hO hO')
theorem k35 (a b:Proc){A:Q2}(h:T8 a):Qz Tryz.prog G 35 [.agg a.cells,.agg b.cells] A (bo (Ym a b)) A:=by
 obtain⟨n,i,ls,es⟩:=a
 obtain⟨n2,i2,ls2,es2⟩:=b
 obtain⟨y1,y2,y3,y4,y5,y6⟩:=h
 simp only at y1 y2 y3 y4 y5 y6
 refine Q4 l35 (fE rfl) ?_
 unfold C35
 refine YM rfl rfl fun p q env B e2 e3 hp hq hO=> ?_
 simp only[Proc.cells,Qr]at hp hq
 simp only[e2,e3,hp,hq,Q1,seval]
 refine⟨fun g1=>⟨fun g2=>⟨fun g3=>⟨fun g4=> ?_,fun h=>Qb (by simp [Ym,VQ (p:=ZD) (show es.length≠es2.length by omega)]) hO⟩,fun h=>Qb (by simp [Ym,VQ (p:=Yo) (show ls.length≠ls2.length by omega)]) hO⟩,fun h=>Qb (by simp [Ym,h]) hO⟩,fun h=>Qb (by simp [Ym,h]) hO⟩
 have g3:ls.length=ls2.length:=by omega
 have g4:es.length=es2.length:=by omega
 refine Ms (v:=5) (r:=4) (w:=false) ls.length (fun i=> !(Yo ls[i] (ls2[i.val]'(by have:=i.isLt;omega)))) (fun env=>env 2=.ptr p 0∧env 3=.ptr q 0) (.refl B) ⟨e2,e3⟩ rfl (by omega) ?_ ?_ ?_ ?_ ?_
 ·rintro i env B' s hi ⟨e2,e3⟩ e5 hO'
  have hp:=hO'.keep hp
  simp only[e2,e3,e5,hp,Q1,seval]
  exact YU hO'
 ·rintro i hi env B' FR ⟨e2,e3⟩ e5 hO' hgo hre
  have hp:=hO'.keep hp
  have hq:=hO'.keep hq
  have hd1:=Za (enc:=Loc.cells) (sz:=4) (fun _=>rfl) hi
  have hd2:=Za (enc:=Loc.cells) (sz:=4) (fun _=>rfl) (xs:=ls2) (i:=i) (by omega)
  have i1:(i:Int)<ls.length:=by omega
  have i2:(i:Int)<ls2.length:=by omega
  have hlt:ls[i].inv.length<2^60:=(y4 _ (cV hi)).2.1
  obtain⟨x,hx⟩:∃x,ls[i]=x:=⟨_,rfl⟩
  obtain⟨y,hy⟩:∃y,ls2[i]=y:=⟨_,rfl⟩
  have hxy:(!(Yo ls[(⟨i,hi⟩:Fin ls.length)] ls2[i]))=(!(Yo x y)):=by rw[←hx,←hy];rfl
  rw[hxy]at hgo hre
  rw[hx]at hlt hd1
  rw[hy]at hd2
  obtain⟨xn,xk,xv,xr⟩:=x
  obtain⟨yn,yk,yv,yr⟩:=y
  simp only at hlt
  have i0:=fun A=>FS G (xs:=xv) (ys:=yv) (A:=A) (t1:=none) (t2:=none) rfl rfl rfl rfl (by omega)
  simp only[Loc.cells,Qr,cF,cI]at hd1 hd2
  refine Qa (fun env ds B''=>ds=[]∧env 2=.ptr p 0∧env 3=.ptr q 0∧env 5=i64 i∧QQ B B''∧∃c d,env 6=.ptr c 0∧env 7=.ptr d 0∧B'' c=some (.cells [.str xn,i64 xk,.slice 4 xv.length (xv.flatMap Test.cells) none,i64 xr])∧B'' d=some (.cells [.str yn,i64 yk,.slice 4 yv.length (yv.flatMap Test.cells) none,i64 yr])) ?_ ?_
  ·simp only[e2,e3,e5,hp,hq,hd1,hd2,i1,i2,Q1,seval]
   constructor
   ·intro c hc
    have npc:=Q6 hp hc
    have nqc:=Q6 hq hc
    simp only[Q5 npc,Q5 nqc,hp,hq,QK,Q1,seval]
    intro d hd
    obtain⟨ndc,hd⟩:=Q8 hd
    have npd:=Q6 hp hd
    have nqd:=Q6 hq hd
    have ncd:=ndc.symm
    simp only[Q5 npc,Q5 nqc,Q5 npd,Q5 nqd,Q5 ncd,Q5 ndc,Q0,hp,hq,QK,Q1,seval]
    have bc:=hO'.gone hc
    have bd:=hO'.gone hd
    exact⟨e2,e3,e5,(((hO'.set bc (by simp)).set bd (by simp)).set bc (by simp)).set bd (by simp),c,d,rfl,rfl,by rw[Q5 ncd,Q0],Q0 ..⟩
   ·intro c hc
    have npc:=Q6 hp hc
    have nqc:=Q6 hq hc
    simp only[Q5 npc,Q5 nqc,hp,hq,QK,Q1,seval]
    intro d hd
    obtain⟨ndc,hd⟩:=Q8 hd
    have npd:=Q6 hp hd
    have nqd:=Q6 hq hd
    have ncd:=ndc.symm
    simp only[Q5 npc,Q5 nqc,Q5 npd,Q5 nqd,Q5 ncd,Q5 ndc,Q0,hp,hq,QK,Q1,seval]
    have bc:=hO'.gone hc
    have bd:=hO'.gone hd
    exact⟨e2,e3,e5,((hO'.set bc (by simp)).set bd (by simp)).set bc (by simp),d,c,rfl,rfl,by rw[Q5 ndc,Q0],Q0 ..⟩
  clear e2 e3 e5 hO' hp hq hd1 hd2
  rintro env ds B'' ⟨rfl,e2,e3,e5,hO',c,d,e6,e7,hc,hd⟩
  simp only[e2,e3,e5,e6,e7,hc,hd,Q1,seval]
  refine⟨fun h1=>⟨fun h2=>⟨fun h3=>Q3 (i0 _) ?_,fun h=>hre (by simp [Yo,h]) _ _ rfl hO'⟩,fun h=>hre (by simp [Yo,h]) _ _ rfl hO'⟩,fun h=>hre (by simp [Yo,h]) _ _ rfl hO'⟩
  cases g0:Zi VI xv yv with
  |false=>
   simp only[Q1,seval]
   exact hre (by simp [Yo,g0]) _ _ rfl hO'
  |true=>
   simp only[Q1,seval]
   exact hgo (by simp [Yo,g0,h1,h2,h3]) _ _ ⟨e2,e3⟩ e5 hO'
 ·rintro i hi hw env B' s ⟨e2,e3⟩ e5
  simp only[e2,e3,e5,hw,Q1,seval]
 ·rintro i hi env B' hO' e4
  simp only[e4,Q1,seval]
  exact Qb (by simp [Ym,Ul g3 i hi]) (QQ.trans hO hO')
 rintro hS env B' ⟨e2,e3⟩ hO'
 have g5:=Uk g3 hS
 have hO:=QQ.trans hO hO'
 have hp:=hO'.keep hp
 have hq:=hO'.keep hq
 clear hS hO'
 simp only[Q1,seval]
 refine X1 (v:=8) es.length (fun i=> !(ZD es[i] (es2[i.val]'(by have:=i.isLt;omega)))) (fun env=>env 2=.ptr p 0∧env 3=.ptr q 0) (.refl B') ⟨e2,e3⟩ rfl (by omega) ?_ ?_ ?_ ?_ ?_
 ·rintro i env B' s hi ⟨e2,e3⟩ e5 hO'
  have hp:=hO'.keep hp
  simp only[e2,e3,e5,hp,Q1,seval]
  exact YU hO'
 ·rintro i hi env B' s ⟨e2,e3⟩ e5 hO'
  have hp:=hO'.keep hp
  have hq:=hO'.keep hq
  have hd1:=Za (enc:=Edge.cells) (sz:=13) Edge.cells_len hi
  have hd2:=Za (enc:=Edge.cells) (sz:=13) Edge.cells_len (xs:=es2) (i:=i) (by omega)
  have i1:(i:Int)<es.length:=by omega
  have i2:(i:Int)<es2.length:=by omega
  simp only[e2,e3,e5,hp,hq,hd1,hd2,i1,i2,Edge.cells_len,Q1,seval]
  refine Q3 (k101 G es[i] es2[i] (y6 _ (cV hi))) ?_
  simp only[e2,e3,e5,hp,hq,QK,Q1,seval]
  exact⟨rfl,hO'⟩
 ·rintro i hi hw env B' s ⟨e2,e3⟩ e5
  simp only[e2,e3,e5,hw,Q1,seval]
 ·rintro i hi env B' hO' e4
  simp only[e4,Q1,seval]
  exact Qb (by simp [Ym,Ul g4 i hi]) (QQ.trans hO hO')
 ·rintro hi env B' _ hO'
  simp only[Q1,seval]
  exact Qb (by simp [Ym,g1,g2,g5,Uk g4 hi]) (QQ.trans hO hO')
theorem n11 (a b:Model){A:Q2}(h:LtM a):Qz Tryz.prog G 11 [.agg a.cells,.agg b.cells] A (bo (Jz a b)) A:=by
 obtain⟨n,cl,vs,ch,fs,ps⟩:=a
 obtain⟨n2,LI,vs2,ch2,fs2,ps2⟩:=b
 obtain⟨y1,y2,y3,y4,y5,y6,y7,y8,y9,y10,y11,y12⟩:=h
 simp only at y1 y2 y3 y4 y5 y6 y7 y8 y9 y10 y11 y12
 refine Q4 l11 (fE rfl) ?_
 unfold C11
 refine YM rfl rfl fun p q env B e2 e3 hp hq hO=> ?_
 simp only[Model.cells,Qr]at hp hq
 simp only[e2,e3,hp,hq,Q1,seval]
 refine⟨fun h1=>Q3 (k33 G (xs:=cl) (ys:=LI) rfl rfl rfl rfl (by omega)) ?_,fun h1=>Qb (by simp [Jz,h1]) hO⟩
 cases g0:Zi (fun a b=>a==b) cl LI with
 |false=>
  simp only[e2,e3,hp,hq,Q1,seval]
  exact Qb (by simp [Jz,g0]) hO
 |true=>
 simp only[e2,e3,hp,hq,Q1,seval]
 refine⟨fun g1=>⟨fun g2=>Q3 (k34 G fs fs2 (by omega) y9) ?_,fun h=>Qb (by simp [Jz,VQ (p:=Ue) (show ch.length≠ch2.length by omega)]) hO⟩,fun h=>Qb (by simp [Jz,VQ (p:=Xj) (show vs.length≠vs2.length by omega)]) hO⟩
 cases g3:Zi VJ fs fs2 with
 |false=>
  simp only[e2,e3,hp,hq,Q1,seval]
  exact Qb (by simp [Jz,g3]) hO
 |true=>
 simp only[e2,e3,hp,hq,Q1,seval]
 refine⟨fun g4=> ?_,fun h=>Qb (by simp [Jz,VQ (p:=Ym) (show ps.length≠ps2.length by omega)]) hO⟩
 have g1:vs.length=vs2.length:=by omega
 have g2:ch.length=ch2.length:=by omega
 have g4:ps.length=ps2.length:=by omega
 refine X1 (v:=5) vs.length (fun i=> !(Xj vs[i] (vs2[i.val]'(by have:=i.isLt;omega)))) (fun env=>env 2=.ptr p 0∧env 3=.ptr q 0) (.refl B) ⟨e2,e3⟩ rfl (by omega) ?_ ?_ ?_ ?_ ?_
 ·rintro i env B' s hi ⟨e2,e3⟩ e5 hO'
  have hp:=hO'.keep hp
  simp only[e2,e3,e5,hp,Q1,seval]
  exact YU hO'
 ·rintro i hi env B' s ⟨e2,e3⟩ e5 hO'
  have hp:=hO'.keep hp
  have hq:=hO'.keep hq
  have hd1:=Za (enc:=Var.cells) (sz:=4) (fun _=>rfl) hi
  have hd2:=Za (enc:=Var.cells) (sz:=4) (fun _=>rfl) (xs:=vs2) (i:=i) (by omega)
  have i1:(i:Int)<vs.length:=by omega
  have i2:(i:Int)<vs2.length:=by omega
  simp only[e2,e3,e5,hp,hq,hd1,hd2,i1,i2,Var.cells,Q1,seval]
  rw[show Qg .neq (.struct [.s,.i,.i,.i]) (.agg [.str vs[i].name,i64 vs[i].low,i64 vs[i].high,i64 vs[i].init]) (.agg [.str vs2[i].name,i64 vs2[i].low,i64 vs2[i].high,i64 vs2[i].init])=some (bo !(Xj vs[i] vs2[i]))from eqV]
  simp only[e2,e3,e5,hp,hq,QK,Q1,seval]
  exact⟨rfl,hO'⟩
 ·rintro i hi hw env B' s ⟨e2,e3⟩ e5
  simp only[e2,e3,e5,hw,Q1,seval]
 ·rintro i hi env B' hO' e4
  simp only[e4,Q1,seval]
  exact Qb (by simp [Jz,Ul g1 i hi]) (QQ.trans hO hO')
 rintro hS env B' ⟨e2,e3⟩ hO'
 have g5:=Uk g1 hS
 have hO:=QQ.trans hO hO'
 have hp:=hO'.keep hp
 have hq:=hO'.keep hq
 clear hS hO'
 simp only[Q1,seval]
 generalize B'=B at*
 refine X1 (v:=6) ch.length (fun i=> !(Ue ch[i] (ch2[i.val]'(by have:=i.isLt;omega)))) (fun env=>env 2=.ptr p 0∧env 3=.ptr q 0) (.refl B) ⟨e2,e3⟩ rfl (by omega) ?_ ?_ ?_ ?_ ?_
 ·rintro i env B' s hi ⟨e2,e3⟩ e5 hO'
  have hp:=hO'.keep hp
  simp only[e2,e3,e5,hp,Q1,seval]
  exact YU hO'
 ·rintro i hi env B' s ⟨e2,e3⟩ e5 hO'
  have hp:=hO'.keep hp
  have hq:=hO'.keep hq
  have hd1:=Za (enc:=Chan.cells) (sz:=3) (fun _=>rfl) hi
  have hd2:=Za (enc:=Chan.cells) (sz:=3) (fun _=>rfl) (xs:=ch2) (i:=i) (by omega)
  have i1:(i:Int)<ch.length:=by omega
  have i2:(i:Int)<ch2.length:=by omega
  simp only[e2,e3,e5,hp,hq,hd1,hd2,i1,i2,Chan.cells,Q1,seval]
  rw[show Qg .neq (.struct [.s,.b,.b]) (.agg [.str ch[i].name,bo ch[i].broadcast,bo ch[i].urgent]) (.agg [.str ch2[i].name,bo ch2[i].broadcast,bo ch2[i].urgent])=some (bo !(Ue ch[i] ch2[i]))from E0]
  simp only[e2,e3,e5,hp,hq,QK,Q1,seval]
  exact⟨rfl,hO'⟩
 ·rintro i hi hw env B' s ⟨e2,e3⟩ e5
  simp only[e2,e3,e5,hw,Q1,seval]
 ·rintro i hi env B' hO' e4
  simp only[e4,Q1,seval]
  exact Qb (by simp [Jz,Ul g2 i hi]) (QQ.trans hO hO')
 rintro hS env B' ⟨e2,e3⟩ hO'
 have g6:=Uk g2 hS
 have hO:=QQ.trans hO hO'
 have hp:=hO'.keep hp
 have hq:=hO'.keep hq
 clear hS hO'
 simp only[Q1,seval]
 generalize B'=B at*
 refine X1 (v:=7) ps.length (fun i=> !(Ym ps[i] (ps2[i.val]'(by have:=i.isLt;omega)))) (fun env=>env 2=.ptr p 0∧env 3=.ptr q 0) (.refl B) ⟨e2,e3⟩ rfl (by omega) ?_ ?_ ?_ ?_ ?_
 ·rintro i env B' s hi ⟨e2,e3⟩ e5 hO'
  have hp:=hO'.keep hp
  simp only[e2,e3,e5,hp,Q1,seval]
  exact YU hO'
 ·rintro i hi env B' s ⟨e2,e3⟩ e5 hO'
  have hp:=hO'.keep hp
  have hq:=hO'.keep hq
  have hd1:=Za (enc:=Proc.cells) (sz:=4) (fun _=>rfl) hi
  have hd2:=Za (enc:=Proc.cells) (sz:=4) (fun _=>rfl) (xs:=ps2) (i:=i) (by omega)
  have i1:(i:Int)<ps.length:=by omega
  have i2:(i:Int)<ps2.length:=by omega
  simp only[e2,e3,e5,hp,hq,hd1,hd2,i1,i2,Proc.cells,Q1,seval]
  refine Q3 (k35 G ps[i] ps2[i] (y12 _ (cV hi))) ?_
  simp only[e2,e3,e5,hp,hq,QK,Q1,seval]
  exact⟨rfl,hO'⟩
 ·rintro i hi hw env B' s ⟨e2,e3⟩ e5
  simp only[e2,e3,e5,hw,Q1,seval]
 ·rintro i hi env B' hO' e4
  simp only[e4,Q1,seval]
  exact Qb (by simp [Jz,Ul g4 i hi]) (QQ.trans hO hO')
 ·rintro hi env B' _ hO'
  simp only[Q1,seval]
  exact Qb (by simp [Jz,h1,g0,g3,g5,g6,Uk g4 hi]) (QQ.trans hO hO')
end
end Go.Proofs.YtcbjbgaefighcaaGreatDoor
