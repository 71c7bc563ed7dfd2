/- Part 34 of the proof. -/
import Derived.Test.YtcbjbgaefighcaaGreatDoorT0
import Derived.Test.YtcbjbgaefighcaaGreatDoorT7
import Derived.Test.YtcbjbgaefighcaaGreatDoorT26
import Derived.Test.YtcbjbgaefighcaaGreatDoorT27
import Derived.Test.YtcbjbgaefighcaaGreatDoorT32
import Derived.Test.YtcbjbgaefighcaaGreatDoorT33
set_option linter.all false
namespace Go.Proofs.YtcbjbgaefighcaaGreatDoor
open Go Go.Ax Go.Proofs
theorem Xh {C:Cx}{hd st body:LC}{c j j1:Nat}{s:List Fr}{env:Qn}{B:Q2}(n:Nat)(R:Nat→Qn→Q2→Prop)(h0:R 0 env B)
 (hhd:∀i env B s,i≤n→R i env B→C.run hd (.post (fun env' ds B'=>ds=[]∧env' c=bo (decide (i<n))∧R i env' B')::s) env [] B)
 (hbody:∀i env B FR,i<n→R i env B→(∀env ds B,C.ex .ret FR env ds B=C.ex .ret s env ds B)→C.run (.seq (.block j1 body) st) (.post (fun env' ds B'=>ds=[]∧R (i+1) env' B')::FR) env [] B)
 (hend:∀env B,R n env B→C.ex .normal s env [] B):
 C.run (.block j (.loop (.seq (.seq hd (.cond (.tmp c) .skip (.exit j))) (.seq (.block j1 body) st)))) s env [] B:=by
 rw[Vm]
 refine Qt (fun k env ds B=>∃i,k=n - i∧i≤n∧ds=[]∧R i env B) n ⟨0,by omega,by omega,rfl,h0⟩ ?_
 rintro k env ds B ⟨i,rfl,hi,rfl,hR⟩
 refine Qb (fun env ds B=>ds=[]∧i<n∧R i env B) ?_ ?_
 ·refine Qb _ (hhd i env B _ hi hR) ?_
  rintro env ds B ⟨rfl,hc,hR⟩
  by_cases h:i<n
  ·rw[fA h]at hc
   simp only[hc,h,QJ,seval]
   exact hR
  ·rw[fB h]at hc
   have:i=n:=by omega
   subst this
   simp only[hc,QJ,seval]
   exact hend _ _ hR
 ·rintro env ds B ⟨rfl,h,hR⟩
  have h2:=hbody i env B (.post (fun env ds A=>∃m,m<n - i∧∃i',m=n - i'∧i'≤n∧ds=[]∧R i' env A)::.blk j::s) h hR fun env ds B=>by simp only[QJ,seval]
  refine Vt _ _ _ (fun e env ds A h3=> ?_) env [] B h2
  cases e with
  |normal=>
   obtain⟨rfl,h3⟩:=h3
   exact⟨n - (i+1),by omega,i+1,rfl,h,rfl,h3⟩
  |exit j=>exact h3
  |ret=>exact h3
theorem Zg {α:Type}{enc:α→List AV}{sz:Nat}(hs:∀a,(enc a).length=sz){xs:List α}{i:Nat}(h:i<xs.length):(xs.flatMap enc).drop (i*sz)=enc xs[i]++(xs.drop (i+1)).flatMap enc:=by
 have:=Zd hs (xs.take i) (xs.drop i)
 rw[fY,List.length_take_of_le (by omega)]at this
 rw[this,dP h,dD]
theorem HS {α:Type}{enc:α→List AV}(hs:∀a,(enc a).length=1){xs:List α}{i:Nat}(h:i<xs.length):(xs.flatMap enc).drop i=enc xs[i]++(xs.drop (i+1)).flatMap enc:=by
 have:=Zg hs h
 rwa [Nat.mul_one]at this
theorem FV {α:Type}{p:α→α→Bool}{xs ys:List α}{i:Nat}(h1:i<xs.length)(h2:i<ys.length):Zn p (xs.take (i+1)) (ys.take (i+1))=(Zn p (xs.take i) (ys.take i)&&p xs[i] ys[i]):=by
 rw[dJ h1,dJ h2,LV (by simp;omega)]
 simp [Zn]
theorem Sw {α:Type}{p:α→α→Bool}{xs ys:List α}{i:Nat}(h1:i<xs.length)(h2:i<ys.length)(h:p xs[i] ys[i]=false):Zn p xs ys=false:=by
 have e1:xs=xs.take i++xs[i]::xs.drop (i+1):=by rw[←dP h1,fY]
 have e2:ys=ys.take i++ys[i]::ys.drop (i+1):=by rw[←dP h2,fY]
 rw[e1,e2,LV (by simp;omega)]
 simp [Zn,h]
theorem UA {α:Type}{p:α→α→Bool}{xs ys:List α}(h:xs.length≠ys.length):Zn p xs ys=false:=by
 cases h2:Zn p xs ys with
 |false=>rfl
 |true=>exact absurd (It h2) h
theorem DL {α:Type}{p:α→α→Bool}{xs ys:List α}(h:Zn p (xs.take (min xs.length ys.length)) (ys.take (min xs.length ys.length))=true):Zn p xs ys=decide (xs.length=ys.length):=by
 by_cases e:xs.length=ys.length
 ·rw[←e,Nat.min_self,fT,e,fT]at h
  rw[h,fA e]
 ·rw[UA e,fB e]
theorem TX {C:Cx}{hd body st:LC}{c j j1 r v:Nat}{w:Bool}{s:List Fr}{env:Qn}{B B0:Q2}(n:Nat)(q:Fin n→Bool)(P:Qn→Prop)(hO:QU B0 B)(hP:P env)(hv:env v=i64 0)(hn:n<2^62)
 (hhd:∀i env B s,i≤n→P env→env v=i64 i→QU B0 B→C.run hd (.post (fun env' ds B'=>ds=[]∧env' c=bo (decide (i<n))∧P env'∧env' v=i64 i∧QU B0 B')::s) env [] B)
 (hb:∀(i:Nat) (h:i<n) env B FR,P env→env v=i64 i→QU B0 B→
  (q ⟨i,h⟩=false→∀env' B',P env'→env' v=i64 i→QU B0 B'→C.ex .normal FR env' [] B')→(q ⟨i,h⟩=true→∀env' B',env' r=bo w→QU B0 B'→C.ex .ret FR env' [] B')→C.run body FR env [] B)
 (hst:∀(i:Nat) (_:i<n) (_:IntKind.i64.wrap ((i:Int)+1)=((i+1:Nat):Int)) env B s,P env→env v=i64 i→C.run st (.post (fun env' ds B'=>ds=[]∧P env'∧env' v=i64 (i+1:Nat)∧B'=B)::s) env [] B)
 (hbad:∀i,q i=true→∀env B,QU B0 B→env r=bo w→C.ex .ret s env [] B)
 (hgood:(∀i,q i=false)→∀env B,P env→QU B0 B→C.ex .normal s env [] B):
 C.run (.block j (.loop (.seq (.seq hd (.cond (.tmp c) .skip (.exit j))) (.seq (.block j1 body) st)))) s env [] B:=by
 refine Xh n (fun i env B=>P env∧env v=i64 i∧QU B0 B∧∀i':Fin n,i'<i→q i'=false) ⟨hP,hv,hO,fun i' h=>absurd h (by omega)⟩ ?_ ?_ ?_
 ·rintro i env B s hi ⟨hP,hv,hO,hq⟩
  refine Vt _ _ _ (fun e env ds A h3=> ?_) env [] B (hhd i env B s hi hP hv hO)
  cases e with
  |normal=>exact⟨h3.1,h3.2.1,h3.2.2.1,h3.2.2.2.1,h3.2.2.2.2,hq⟩
  |exit j=>exact h3
  |ret=>exact h3
 ·rintro i env B FR hi ⟨hP,hv,hO,hq⟩ hret
  rw[Kj,Vm]
  refine hb i hi env B _ hP hv hO (fun hqi env' B' hP hv hO=> ?_) (fun hqi env' B' hr hO=> ?_)
  ·simp only[QJ,seval]
   refine Vt _ _ _ (fun e env ds A h3=> ?_) env' [] B' (hst i hi (by rw[Qe (by omega) (by omega)];simp) env' B' FR hP hv)
   cases e with
   |normal=>
    obtain⟨rfl,h1,h2,rfl⟩:=h3
    exact⟨rfl,h1,h2,hO,fun i' h=>by
     rcases fH i'.val i with h|h
     ·exact hq i' h
     ·have:i'=⟨i,hi⟩:=Fin.ext (by simp only;omega)
      rw[this];exact hqi⟩
   |exit j=>exact h3
   |ret=>exact h3
  ·simp only[hret,QJ,seval]
   exact hbad _ hqi _ _ hO hr
 ·rintro env B ⟨hP,hv,hO,hq⟩
  exact hgood (fun i=>hq i i.isLt) env B hP hO
theorem XK {C:Cx}{hd D st:LC}{c j j1 k r v:Nat}{w:Bool}{s:List Fr}{env:Qn}{B B0:Q2}(n:Nat)(q:Fin n→Bool)(P:Qn→Prop)(hO:QU B0 B)(hP:P env)(hv:env v=i64 0)(hn:n<2^62)
 (hhd:∀i env B s,i≤n→P env→env v=i64 i→QU B0 B→C.run hd (.post (fun env' ds B'=>ds=[]∧env' c=bo (decide (i<n))∧P env'∧env' v=i64 i∧QU B0 B')::s) env [] B)
 (hD:∀(i:Nat) (h:i<n) env B s,P env→env v=i64 i→QU B0 B→C.run D (.post (fun env' ds B'=>ds=[]∧env' k=bo (q ⟨i,h⟩)∧P env'∧env' v=i64 i∧QU B0 B')::s) env [] B)
 (hst:∀(i:Nat) (_:i<n) (_:IntKind.i64.wrap ((i:Int)+1)=((i+1:Nat):Int)) env B s,P env→env v=i64 i→C.run st (.post (fun env' ds B'=>ds=[]∧P env'∧env' v=i64 (i+1:Nat)∧B'=B)::s) env [] B)
 (hbad:∀i,q i=true→∀env B,QU B0 B→env r=bo w→C.ex .ret s env [] B)
 (hgood:(∀i,q i=false)→∀env B,P env→QU B0 B→C.ex .normal s env [] B):
 C.run (.block j (.loop (.seq (.seq hd (.cond (.tmp c) .skip (.exit j))) (.seq (.block j1 (.seq D (.cond (.tmp k) (.seq (.ops [⟨some r,.mv (.const (.bool w)),none⟩]) .ret) .skip))) st)))) s env [] B:=by
 refine TX (r:=r) (w:=w) n q P hO hP hv hn hhd (fun i h env B FR hP hv hO h1 h2=> ?_) hst hbad hgood
 refine Qb _ (hD i h env B _ hP hv hO) ?_
 rintro env ds B ⟨rfl,hk,hP,hv,hO⟩
 cases hqi:q ⟨i,h⟩with
 |true=>
  rw[hqi]at hk
  simp only[hk,QJ,seval]
  exact h2 hqi _ _ (by simp only[JD,if_true]) hO
 |false=>
  rw[hqi]at hk
  simp only[hk,QJ,seval]
  exact h1 hqi _ _ hP hv hO
theorem Sv {α:Type}{p:α→α→Bool}:∀{xs ys:List α} (h:xs.length=ys.length),(∀i:Fin xs.length,p xs[i] (ys[i.val]'(by have:=i.isLt;omega))=true)→Zn p xs ys=true
 |[],[],_,_=>rfl
 |x::xs,y::ys,h,hq=>by
  simp only[Zn,cD]
  exact⟨hq ⟨0,by simp⟩,Sv (by simpa using h) fun i=>hq ⟨i.val+1,by have:=i.isLt;simp⟩⟩
 |[],_::_,h,_=>by simp at h
 |_::_,[],h,_=>by simp at h
theorem any_fin {α:Type}{f:α→Bool}{xs:List α}:(∀i:Fin xs.length,f xs[i]=false)→xs.any f=false:=fun h=>by
 rw[fM]
 intro x hx
 obtain⟨i,hi,rfl⟩:=List.mem_iff_getElem.1 hx
 rw[cP];exact h ⟨i,hi⟩
theorem zH {α:Type}{f:α→Bool}{xs:List α}(i:Fin xs.length)(h:f xs[i]=true):xs.any f=true:=List.any_eq_true.2 ⟨_,cV _,h⟩
theorem He {a b:Nat}:((a:Int)=b→AV.raw (.bool true)=bo (decide (a=b)))∧(¬(a:Int)=b→AV.raw (.bool false)=bo (decide (a=b))):=
 ⟨fun h=>by rw[fA (by omega)],fun h=>by rw[fB (by omega)]⟩
theorem VA {a b:Nat}{R:Prop}(h:R):((a:Int)<b→AV.raw (.bool true)=bo (decide (a<b))∧R)∧(¬(a:Int)<b→AV.raw (.bool false)=bo (decide (a<b))∧R):=
 ⟨fun h1=>⟨by rw[fA (by omega)],h⟩,fun h1=>⟨by rw[fB (by omega)],h⟩⟩
theorem X6 {α:Type}{p:α→α→Bool}{xs ys:List α}(hl:xs.length=ys.length)(i:Fin xs.length)(h:(!(p xs[i] (ys[i.val]'(by have:=i.isLt;omega))))=true):Zn p xs ys=false:=by
 have:=i.isLt
 exact Sw (i:=i.val) i.isLt (by omega) (by simpa using h)
theorem X5 {α:Type}{p:α→α→Bool}{xs ys:List α}(h:xs.length=ys.length)(hq:∀i:Fin xs.length,(!(p xs[i] (ys[i.val]'(by have:=i.isLt;omega))))=false):Zn p xs ys=true:=Sv h fun i=>by simpa using hq i
theorem FS {a b:Int}:Qh .neq .num (i64 a) (i64 b)=some (bo !(a==b)):=by
 simp only[Qh,Ze,if_true];rfl
theorem HR {a b:Bs}:Qh .neq .num (.str a) (.str b)=some (bo !(a==b)):=rfl
theorem yJ {a b:Bool}:Qh .neq .bool (bo a) (bo b)=some (bo !(a==b)):=by cases a <;> cases b <;> rfl
open Go.Ax.K
def CSm (D:Sched)(k:Nat)(tl:LC):LC:=
 .seq (.ops [o 4 (mc (.bool false))])<|.seq (.seq (.ops [o 5 (mc (.int .i64 0))])<|.block 0<|.loop<|.seq (.seq (.ops [o 6 (mv 5),o 7 (mv 0),o 8 (le 7),o 9 (bn .lss 6 8),o 10 (mv 9),gt 10 11 (mv 5),gt 10 12 (mv 1),gt 10 13 (le 12),gt 10 14 (bn .lss 11 13),o 15 (pa 10 14)])<|.cond (t 15) (.skip)<|.exit 0)<|.seq (.block 1<|.seq (.draw D)<|.cond (t k) (.seq (.ops [o 4 (mc (.bool false))])<|.ret)<|.skip)<|.ops [o 16 (mv 5),o 17 (bk .add 16 (1)),o 5 (mv 17)])<|.seq tl<|.ret
section
variable (G:Nat→Option (List AV))
theorem kSm {α:Type}{A:Q2}{f n k sz:Nat}{D:Sched}{tl:LC}(hl:Qa Tryz.prog f=some ⟨n,false,[.tmp 4],CSm D k tl⟩)(hn:2≤n){xs ys:List α}{enc:α→List AV}{p:α→α→Bool}{t1 t2:Option Nat}(hlen:xs.length<2^62)
 (hD:∀K i env B s,(hx:i<xs.length)→(hy:i<ys.length)→env 0=.slice sz xs.length (xs.flatMap enc) t1→env 1=.slice sz ys.length (ys.flatMap enc) t2→env 5=i64 i→
  (Cx.of Tryz.prog G false [.tmp 4] K).run (.draw D) (.post (fun env' ds B'=>ds=[]∧env' k=bo !(p xs[i] ys[i])∧env' 0=env 0∧env' 1=env 1∧env' 5=i64 i∧QU B B')::s) env [] B)
 (ht:∀K env B s,env 0=.slice sz xs.length (xs.flatMap enc) t1→env 1=.slice sz ys.length (ys.flatMap enc) t2→
  (Cx.of Tryz.prog G false [.tmp 4] K).run tl (.post (fun env' ds B'=>ds=[]∧env' 4=bo (decide (xs.length=ys.length))∧B'=B)::s) env [] B):
 QB Tryz.prog G f [.slice sz xs.length (xs.flatMap enc) t1,.slice sz ys.length (ys.flatMap enc) t2] A (bo (Zn p xs ys)) A:=by
 refine Q4 hl hn ?_
 unfold CSm
 simp only[Q1,seval]
 refine Xh (min xs.length ys.length) (fun i env B=>env 0=.slice sz xs.length (xs.flatMap enc) t1∧env 1=.slice sz ys.length (ys.flatMap enc) t2∧env 5=i64 i∧QU A B∧Zn p (xs.take i) (ys.take i)=true) ⟨rfl,rfl,rfl,.refl _,rfl⟩ ?_ ?_ ?_
 ·rintro i env B s hi ⟨e0,e1,e5,hO,hE⟩
  by_cases h1:(i:Int)<xs.length
  ·by_cases h2:(i:Int)<ys.length
   ·simp only[e0,e1,e5,h1,h2,Q1,seval]
    exact⟨by rw[fA (by omega)],hO,hE⟩
   ·simp only[e0,e1,e5,h1,h2,Q1,seval]
    exact⟨by rw[fB (by omega)],hO,hE⟩
  ·simp only[e0,e1,e5,h1,Q1,seval]
   exact⟨by rw[fB (by omega)],hO,hE⟩
 ·rintro i env B FR hi ⟨e0,e1,e5,hO,hE⟩ hret
  have hx:i<xs.length:=by omega
  have hy:i<ys.length:=by omega
  have e3:IntKind.i64.wrap ((i:Int)+1)=((i+1:Nat):Int):=by rw[Qe (by omega) (by omega)];simp
  rw[Kj,Vm]
  refine Qb _ (hD _ i env B _ hx hy e0 e1 e5) ?_
  rintro env' _ B' ⟨rfl,hk,e0',e1',e5',hO'⟩
  rw[e0]at e0'
  rw[e1]at e1'
  have hO':=QU.trans hO hO'
  have hE':=FV (p:=p) hx hy
  cases hp:p xs[i] ys[i]with
  |false=>
   rw[hp]at hk
   simp only[hk,Q1,seval]
   rw[hret]
   simp only[Q1,seval]
   exact Qc (by rw[Sw hx hy hp]) hO'
  |true=>
   rw[hp]at hk
   simp only[hk,e0',e1',e5',e3,Q1,seval]
   exact⟨hO',by rw[hE',hE,hp];rfl⟩
 ·rintro env B ⟨e0,e1,e5,hO,hE⟩
  simp only[Q1,seval]
  refine Nh ?_
  refine Qb _ (ht _ env B _ e0 e1) ?_
  rintro env' _ B' ⟨rfl,e4,rfl⟩
  simp only[e4,Q1,seval]
  exact Qc (by rw[DL hE]) hO
theorem k33 {xs ys:List Bs}{A:Q2}{n m:Nat}{cs ds:List AV}{t1 t2:Option Nat}(hn:n=xs.length)(hcs:cs=xs.flatMap Zp)(hm:m=ys.length)(hds:ds=ys.flatMap Zp)(hlen:xs.length<2^62):
 QB Tryz.prog G 33 [.slice 1 n cs t1,.slice 1 m ds t2] A (bo (Zn (fun a b=>a==b) xs ys)) A:=by
 subst hn hcs hm hds
 refine kSm G l33 (fE rfl) (sz:=1) hlen (fun K i env B s hx hy e0 e1 e5=> ?_) (fun K env B s e0 e1=> ?_)
 ·have QO:=HS (enc:=Zp) (fun _=>rfl) hx
  have hd2:=HS (enc:=Zp) (fun _=>rfl) hy
  have h1:(i:Int)<xs.length:=by omega
  have h2:(i:Int)<ys.length:=by omega
  simp only[e0,e1,e5,QO,hd2,Nat.mul_one,h1,h2,Zp,Q1,seval]
  rw[show Qh .neq .num (.str xs[i]) (.str ys[i])=some (bo !(xs[i]==ys[i]))from rfl]
  simp only[QM,Q1,seval]
  exact⟨e0,e1,e5,.refl _⟩
 ·simp only[e0,e1,Q1,seval]
  exact He
theorem Cq {xs ys:List Test}{A:Q2}{n m:Nat}{cs ds:List AV}{t1 t2:Option Nat}(hn:n=xs.length)(hcs:cs=xs.flatMap Test.cells)(hm:m=ys.length)(hds:ds=ys.flatMap Test.cells)(hlen:xs.length<2^62):
 QB Tryz.prog G 100 [.slice 4 n cs t1,.slice 4 m ds t2] A (bo (Zn Ur xs ys)) A:=by
 subst hn hcs hm hds
 refine kSm G l100 (fE rfl) (sz:=4) hlen (fun K i env B s hx hy e0 e1 e5=> ?_) (fun K env B s e0 e1=> ?_)
 ·have QO:=Zg (enc:=Test.cells) (sz:=4) (fun _=>rfl) hx
  have hd2:=Zg (enc:=Test.cells) (sz:=4) (fun _=>rfl) hy
  have h1:(i:Int)<xs.length:=by omega
  have h2:(i:Int)<ys.length:=by omega
  simp only[e0,e1,e5,QO,hd2,h1,h2,Test.cells,Q1,seval]
  rw[show Qh .neq (.struct [.s,.b,.b,.i]) (.agg [.str xs[i].clock,bo xs[i].lower,bo xs[i].strict,i64 xs[i].c]) (.agg [.str ys[i].clock,bo ys[i].lower,bo ys[i].strict,i64 ys[i].c])=some (bo !(Ur xs[i] ys[i]))from eqT]
  simp only[QM,Q1,seval]
  exact⟨e0,e1,e5,.refl _⟩
 ·simp only[e0,e1,Q1,seval]
  exact He
theorem k21 (a b:Exp){A:Q2}(h:Xl a):QB Tryz.prog G 21 [.agg a.cells,.agg b.cells] A (bo (Y5 a b)) A:=by
 generalize hn:SizeOf.sizeOf a=sz
 induction sz using Nat.strongRecOn generalizing a b A with
 |_ sz ih=>
 obtain⟨k,n,i,xs⟩:=a
 obtain⟨k2,n2,i2,ys⟩:=b
 simp only[Xl]at h
 refine Q4 l21 (fE rfl) ?_
 unfold C21
 refine Vp rfl rfl fun p q env B e2 e3 hp hq hO=> ?_
 simp only[Exp.cells,Exp.cellsL_eq]at hp hq
 simp only[e2,e3,hp,hq,Q1,seval]
 refine⟨fun h1=>⟨fun h2=>⟨fun h3=>⟨fun h4=> ?_,fun h4=>Qc (by simp [Y5,WT,UA (p:=Y5) (show xs.length≠ys.length by omega)]) hO⟩,fun h=>Qc (by simp [Y5,h]) hO⟩,fun h=>Qc (by simp [Y5,h]) hO⟩,fun h=>Qc (by simp [Y5,h]) hO⟩
 have h4:xs.length=ys.length:=by omega
 refine XK (v:=5) xs.length (fun i=> !(Y5 xs[i] (ys[i.val]'(by have:=i.isLt;omega)))) (fun env=>env 2=.ptr p 0∧env 3=.ptr q 0) (.refl B) ⟨e2,e3⟩ rfl (by omega) ?_ ?_ ?_ ?_ ?_
 ·rintro i env B' s hi ⟨e2,e3⟩ e5 hO'
  have hp:=hO'.keep hp
  simp only[e2,e3,e5,hp,Q1,seval]
  exact VA hO'
 ·rintro i hi env B' s ⟨e2,e3⟩ e5 hO'
  have hp:=hO'.keep hp
  have hq:=hO'.keep hq
  have QO:=Zg (enc:=Exp.cells) (sz:=4) Exp.cells_len hi
  have hd2:=Zg (enc:=Exp.cells) (sz:=4) Exp.cells_len (xs:=ys) (i:=i) (by omega)
  have i1:(i:Int)<xs.length:=by omega
  have i2:(i:Int)<ys.length:=by omega
  simp only[e2,e3,e5,hp,hq,QO,hd2,i1,i2,Q1,seval]
  refine Q3 (ih (SizeOf.sizeOf xs[i]) ?_ xs[i] ys[i] (Wv h.2.2 _ (cV _)) rfl) ?_
  ·have:=cY (cV hi)
   rw[←hn];simp only[Exp.mk.sizeOf_spec];omega
  simp only[e2,e3,e5,hp,hq,QM,Q1,seval]
  exact⟨rfl,hO'⟩
 ·rintro i hi hw env B' s ⟨e2,e3⟩ e5
  simp only[e2,e3,e5,hw,Q1,seval]
 ·rintro i hi env B' hO' e4
  simp only[e4,Q1,seval]
  exact Qc (by simp [Y5,WT,X6 h4 i hi]) (QU.trans hO hO')
 ·rintro hi env B' _ hO'
  simp only[Q1,seval]
  exact Qc (by simp [Y5,WT,X5 h4 hi,h1,h2,h3]) (QU.trans hO hO')
theorem k99 (xs ys:List Stmt){A:Q2}(hl:xs.length<2^60)(h:Wn xs):QB Tryz.prog G 99 [.slice 8 xs.length (Stmt.cellsL xs) none,.slice 8 ys.length (Stmt.cellsL ys) none] A (bo (Zn YM xs ys)) A:=by
 generalize hn:SizeOf.sizeOf xs=sz
 induction sz using Nat.strongRecOn generalizing xs ys A with
 |_ sz ih=>
 rw[Stmt.cellsL_eq,Stmt.cellsL_eq]
 refine kSm G l99 (fE rfl) (sz:=8) (by omega) (fun K i env B s hx hy e0 e1 e5=> ?_) (fun K env B s e0 e1=> ?_)
 ·have QO:=Zg (enc:=Stmt.cells) (sz:=8) Stmt.cells_len hx
  have hd2:=Zg (enc:=Stmt.cells) (sz:=8) Stmt.cells_len hy
  have h1:(i:Int)<xs.length:=by omega
  have h2:(i:Int)<ys.length:=by omega
  have hlt:=Uy h _ (cV hx)
  have hsz:=cY (cV hx)
  generalize xs[i]=x at*
  generalize ys[i]=y at*
  obtain⟨k,n,v,b,e⟩:=x
  obtain⟨k2,n2,v2,b2,e2⟩:=y
  simp only[Kq]at hlt
  have i0:=fun A=>k21 G v v2 (A:=A) hlt.2.1
  have i1:=fun A=>ih (SizeOf.sizeOf b) (by simp only[Stmt.mk.sizeOf_spec]at hsz;omega) b b2 (A:=A) hlt.2.2.1 hlt.2.2.2.2.1 rfl
  have i2:=fun A=>ih (SizeOf.sizeOf e) (by simp only[Stmt.mk.sizeOf_spec]at hsz;omega) e e2 (A:=A) hlt.2.2.2.1 hlt.2.2.2.2.2 rfl
  clear ih
  obtain⟨v0,v1,vi,vx⟩:=v
  obtain⟨w0,w1,wi,wx⟩:=v2
  simp only[Exp.cells]at i0
  simp only[Stmt.cells,Exp.cells,cF,cI]at QO hd2
  simp only[e0,e1,e5,QO,hd2,h1,h2,Q1,seval]
  rw[FS]
  cases g0:k==k2 with
  |false=>
   simp only[e0,e1,e5,QO,hd2,h1,h2,QM,Q1,seval]
   exact⟨by simp [YM,g0],.refl _⟩
  |true=>
  simp only[e0,e1,e5,QO,hd2,h1,h2,Q1,seval]
  rw[HR]
  cases g1:n==n2 with
  |false=>
   simp only[e0,e1,e5,QO,hd2,h1,h2,QM,Q1,seval]
   exact⟨by simp [YM,g1],.refl _⟩
  |true=>
  simp only[e0,e1,e5,QO,hd2,h1,h2,Q1,seval]
  refine Q3 (i0 _) ?_
  cases g2:Y5 (.mk v0 v1 vi vx) (.mk w0 w1 wi wx)with
  |false=>
   simp only[e0,e1,e5,QO,hd2,h1,h2,QM,Q1,seval]
   exact⟨by simp [YM,g2],.refl _⟩
  |true=>
  simp only[e0,e1,e5,QO,hd2,h1,h2,Q1,seval]
  refine Q3 (i1 _) ?_
  cases g3:Zn YM b b2 with
  |false=>
   simp only[e0,e1,e5,QO,hd2,h1,h2,QM,Q1,seval]
   exact⟨by simp [YM,KU,g3],.refl _⟩
  |true=>
  simp only[e0,e1,e5,QO,hd2,h1,h2,Q1,seval]
  refine Q3 (i2 _) ?_
  simp only[e0,e1,e5,QO,hd2,h1,h2,QM,Q1,seval]
  exact⟨by simp [YM,KU,g0,g1,g2,g3],.refl _⟩
 ·simp only[e0,e1,Q1,seval]
  exact He
theorem k34 (xs ys:List Func){A:Q2}(hl:xs.length<2^60)(h:∀f∈xs,Og f):QB Tryz.prog G 34 [.slice 3 xs.length (xs.flatMap Func.cells) none,.slice 3 ys.length (ys.flatMap Func.cells) none] A (bo (Zn Us xs ys)) A:=by
 refine kSm G l34 (fE rfl) (sz:=3) (by omega) (fun K i env B s hx hy e0 e1 e5=> ?_) (fun K env B s e0 e1=> ?_)
 ·have QO:=Zg (enc:=Func.cells) (sz:=3) (fun _=>rfl) hx
  have hd2:=Zg (enc:=Func.cells) (sz:=3) (fun _=>rfl) hy
  have h1:(i:Int)<xs.length:=by omega
  have h2:(i:Int)<ys.length:=by omega
  have hlt:=h _ (cV hx)
  generalize xs[i]=x at*
  generalize ys[i]=y at*
  obtain⟨n,p,b⟩:=x
  obtain⟨n2,p2,b2⟩:=y
  simp only[Og]at hlt
  have i0:=fun A=>k33 G (xs:=p) (ys:=p2) (A:=A) (t1:=none) (t2:=none) rfl rfl rfl rfl (by omega)
  have i1:=fun A=>k99 G b b2 (A:=A) hlt.2.2.2.1 hlt.2.2.2.2
  simp only[Stmt.cellsL_eq]at i1
  simp only[Func.cells,Qr,cF,cI]at QO hd2
  simp only[e0,e1,e5,QO,hd2,h1,h2,Q1,seval]
  rw[HR]
  cases g0:n==n2 with
  |false=>
   simp only[e0,e1,e5,QO,hd2,h1,h2,QM,Q1,seval]
   exact⟨by simp [Us,g0],.refl _⟩
  |true=>
  simp only[e0,e1,e5,QO,hd2,h1,h2,Q1,seval]
  refine Q3 (i0 _) ?_
  cases g1:Zn (fun a b=>a==b) p p2 with
  |false=>
   simp only[e0,e1,e5,QO,hd2,h1,h2,QM,Q1,seval]
   exact⟨by simp [Us,g1],.refl _⟩
  |true=>
  simp only[e0,e1,e5,QO,hd2,h1,h2,Q1,seval]
  refine Q3 (i1 _) ?_
  simp only[e0,e1,e5,QO,hd2,h1,h2,QM,Q1,seval]
  exact⟨by simp [Us,g0,g1],.refl _⟩
 ·simp only[e0,e1,Q1,seval]
  exact He
end
section
variable (G:Nat→Option (List AV))
theorem k101 (a b:Edge){A:Q2}(h:I3 a):QB Tryz.prog G 101 [.agg a.cells,.agg b.cells] A (bo (ZS a b)) A:=by
 obtain⟨n,d,ts,⟨v0,v1,vi,vx⟩,ch,sd,ss,cs,co,ki⟩:=a
 obtain⟨n2,d2,ts2,⟨w0,w1,wi,wx⟩,ch2,sd2,ss2,cs2,co2,ki2⟩:=b
 simp only[I3,Of]at h
 obtain⟨y1,y2,y3,y4,y5,y6,y7,y8,y9,y10⟩:=h
 have i0:=fun A=>k21 G (.mk v0 v1 vi vx) (.mk w0 w1 wi wx) (A:=A) y5.1
 have i1:=fun A=>Cq G (xs:=ts) (ys:=ts2) (A:=A) (t1:=none) (t2:=none) rfl rfl rfl rfl (by omega)
 simp only[Exp.cells]at i0
 refine Q4 l101 (fE rfl) ?_
 unfold AD
 refine Vp rfl rfl fun p q env B e2 e3 hp hq hO=> ?_
 simp only[Edge.cells,Exp.cells,Qr,cF,cI]at hp hq
 simp only[e2,e3,hp,hq,Q1,seval]
 refine⟨fun g1=>⟨fun g2=>Q3 (i1 _) ?_,fun h=>Qc (by simp [ZS,h]) hO⟩,fun h=>Qc (by simp [ZS,h]) hO⟩
 cases g3:Zn Ur ts ts2 with
 |false=>
  simp only[e2,e3,hp,hq,Q1,seval]
  exact Qc (by simp [ZS,g3]) hO
 |true=>
 simp only[e2,e3,hp,hq,Q1,seval]
 refine Q3 (i0 _) ?_
 cases g4:Y5 (.mk v0 v1 vi vx) (.mk w0 w1 wi wx)with
 |false=>
  simp only[e2,e3,hp,hq,Q1,seval]
  exact Qc (by simp [ZS,g4]) hO
 |true=>
 simp only[e2,e3,hp,hq,Q1,seval]
 refine⟨fun g5=>⟨fun g6=>⟨fun g7=>⟨fun g8=>⟨fun g9=>⟨fun g10=> ?_,fun h=>Qc (by simp [ZS,UA (p:=WB) (show cs.length≠cs2.length by omega)]) hO⟩,fun h=>Qc (by simp [ZS,UA (p:=Ut) (show ss.length≠ss2.length by omega)]) hO⟩,fun h=>Qc (by simp [ZS,h]) hO⟩,fun h=>Qc (by simp [ZS,h]) hO⟩,fun h=>Qc (by simp [ZS,h]) hO⟩,fun h=>Qc (by simp [ZS,h]) hO⟩
 have g9:ss.length=ss2.length:=by omega
 have g10:cs.length=cs2.length:=by omega
 refine XK (v:=5) ss.length (fun i=> !(Ut ss[i] (ss2[i.val]'(by have:=i.isLt;omega)))) (fun env=>env 2=.ptr p 0∧env 3=.ptr q 0) (.refl B) ⟨e2,e3⟩ rfl (by omega) ?_ ?_ ?_ ?_ ?_
 ·rintro i env B' s hi ⟨e2,e3⟩ e5 hO'
  have hp:=hO'.keep hp
  simp only[e2,e3,e5,hp,Q1,seval]
  exact VA hO'
 ·rintro i hi env B' s ⟨e2,e3⟩ e5 hO'
  have hp:=hO'.keep hp
  have hq:=hO'.keep hq
  have QO:=Zg (enc:=Assign.cells) (sz:=5) Assign.cells_len hi
  have hd2:=Zg (enc:=Assign.cells) (sz:=5) Assign.cells_len (xs:=ss2) (i:=i) (by omega)
  have i1:(i:Int)<ss.length:=by omega
  have i2:(i:Int)<ss2.length:=by omega
  have hlt:=(y8 _ (cV hi)).2.1
  obtain⟨x,hx⟩:∃x,ss[i]=x:=⟨_,rfl⟩
  obtain⟨y,hy⟩:∃y,ss2[i]=y:=⟨_,rfl⟩
  have hxy:bo (!(Ut ss[(⟨i,hi⟩:Fin ss.length)] ss2[i]))=bo (!(Ut x y)):=by rw[←hx,←hy];rfl
  rw[hxy]
  rw[hx]at hlt QO
  rw[hy]at hd2
  have i0:=fun A=>k21 G x.val y.val (A:=A) hlt
  obtain⟨xn,x0,x1,xi,xx⟩:=x
  obtain⟨yn,y0,y1,yi,yx⟩:=y
  simp only[Exp.cells]at i0
  simp only[Assign.cells,Exp.cells,cF,cI]at QO hd2
  simp only[e2,e3,e5,hp,hq,QO,hd2,i1,i2,Q1,seval]
  rw[HR]
  cases g0:xn==yn with
  |false=>
   simp only[e2,e3,e5,hp,hq,QO,hd2,i1,i2,QM,Q1,seval]
   exact⟨by simp [Ut,g0],hO'⟩
  |true=>
  simp only[e2,e3,e5,hp,hq,QO,hd2,i1,i2,Q1,seval]
  refine Q3 (i0 _) ?_
  simp only[e2,e3,e5,hp,hq,QM,Q1,seval]
  exact⟨by simp [Ut,g0],hO'⟩
 ·rintro i hi hw env B' s ⟨e2,e3⟩ e5
  simp only[e2,e3,e5,hw,Q1,seval]
 ·rintro i hi env B' hO' e4
  simp only[e4,Q1,seval]
  exact Qc (by simp [ZS,X6 g9 i hi]) (QU.trans hO hO')
 rintro hS env B' ⟨e2,e3⟩ hO'
 have g11:=X5 g9 hS
 have hO:=QU.trans hO hO'
 have hp:=hO'.keep hp
 have hq:=hO'.keep hq
 clear hS hO'
 simp only[Q1,seval]
 refine XK (v:=6) cs.length (fun i=> !(WB cs[i] (cs2[i.val]'(by have:=i.isLt;omega)))) (fun env=>env 2=.ptr p 0∧env 3=.ptr q 0) (.refl B') ⟨e2,e3⟩ rfl (by omega) ?_ ?_ ?_ ?_ ?_
 ·rintro i env B' s hi ⟨e2,e3⟩ e5 hO'
  have hp:=hO'.keep hp
  simp only[e2,e3,e5,hp,Q1,seval]
  exact VA hO'
 ·rintro i hi env B' s ⟨e2,e3⟩ e5 hO'
  have hp:=hO'.keep hp
  have hq:=hO'.keep hq
  have QO:=Zg (enc:=Clear.cells) (sz:=2) (fun _=>rfl) hi
  have hd2:=Zg (enc:=Clear.cells) (sz:=2) (fun _=>rfl) (xs:=cs2) (i:=i) (by omega)
  have i1:(i:Int)<cs.length:=by omega
  have i2:(i:Int)<cs2.length:=by omega
  simp only[e2,e3,e5,hp,hq,QO,hd2,i1,i2,Clear.cells,Q1,seval]
  rw[show Qh .neq (.struct [.s,.i]) (.agg [.str cs[i].clock,i64 cs[i].tv]) (.agg [.str cs2[i].clock,i64 cs2[i].tv])=some (bo !(WB cs[i] cs2[i]))from eqC]
  simp only[e2,e3,e5,hp,hq,QM,Q1,seval]
  exact⟨rfl,hO'⟩
 ·rintro i hi hw env B' s ⟨e2,e3⟩ e5
  simp only[e2,e3,e5,hw,Q1,seval]
 ·rintro i hi env B' hO' e4
  simp only[e4,Q1,seval]
  exact Qc (by simp [ZS,X6 g10 i hi]) (QU.trans hO hO')
 ·rintro hi env B' _ hO'
  simp only[Q1,seval]
  exact Qc (by simp [ZS,g1,g2,g3,g4,g5,g6,g7,g8,g11,X5 g10 hi]) (QU.trans hO hO')
theorem k35 (a b:Proc){A:Q2}(h:RL a):QB Tryz.prog G 35 [.agg a.cells,.agg b.cells] A (bo (YY a b)) A:=by
 obtain⟨n,i,ls,es⟩:=a
 obtain⟨n2,i2,ls2,es2⟩:=b
 obtain⟨y1,y2,y3,y4,y5,y6⟩:=h
 simp only at y1 y2 y3 y4 y5 y6
 refine Q4 l35 (fE rfl) ?_
 unfold C35
 refine Vp rfl rfl fun p q env B e2 e3 hp hq hO=> ?_
 simp only[Proc.cells,Qr]at hp hq
 simp only[e2,e3,hp,hq,Q1,seval]
 refine⟨fun g1=>⟨fun g2=>⟨fun g3=>⟨fun g4=> ?_,fun h=>Qc (by simp [YY,UA (p:=ZS) (show es.length≠es2.length by omega)]) hO⟩,fun h=>Qc (by simp [YY,UA (p:=YZ) (show ls.length≠ls2.length by omega)]) hO⟩,fun h=>Qc (by simp [YY,h]) hO⟩,fun h=>Qc (by simp [YY,h]) hO⟩
 have g3:ls.length=ls2.length:=by omega
 have g4:es.length=es2.length:=by omega
 refine TX (v:=5) (r:=4) (w:=false) ls.length (fun i=> !(YZ ls[i] (ls2[i.val]'(by have:=i.isLt;omega)))) (fun env=>env 2=.ptr p 0∧env 3=.ptr q 0) (.refl B) ⟨e2,e3⟩ rfl (by omega) ?_ ?_ ?_ ?_ ?_
 ·rintro i env B' s hi ⟨e2,e3⟩ e5 hO'
  have hp:=hO'.keep hp
  simp only[e2,e3,e5,hp,Q1,seval]
  exact VA hO'
 ·rintro i hi env B' FR ⟨e2,e3⟩ e5 hO' hgo hre
  have hp:=hO'.keep hp
  have hq:=hO'.keep hq
  have QO:=Zg (enc:=Loc.cells) (sz:=4) (fun _=>rfl) hi
  have hd2:=Zg (enc:=Loc.cells) (sz:=4) (fun _=>rfl) (xs:=ls2) (i:=i) (by omega)
  have i1:(i:Int)<ls.length:=by omega
  have i2:(i:Int)<ls2.length:=by omega
  have hlt:ls[i].inv.length<2^60:=(y4 _ (cV hi)).2.1
  obtain⟨x,hx⟩:∃x,ls[i]=x:=⟨_,rfl⟩
  obtain⟨y,hy⟩:∃y,ls2[i]=y:=⟨_,rfl⟩
  have hxy:(!(YZ ls[(⟨i,hi⟩:Fin ls.length)] ls2[i]))=(!(YZ x y)):=by rw[←hx,←hy];rfl
  rw[hxy]at hgo hre
  rw[hx]at hlt QO
  rw[hy]at hd2
  obtain⟨xn,xk,xv,xr⟩:=x
  obtain⟨yn,yk,yv,yr⟩:=y
  simp only at hlt
  have i0:=fun A=>Cq G (xs:=xv) (ys:=yv) (A:=A) (t1:=none) (t2:=none) rfl rfl rfl rfl (by omega)
  simp only[Loc.cells,Qr,cF,cI]at QO hd2
  refine Qb (fun env ds B''=>ds=[]∧env 2=.ptr p 0∧env 3=.ptr q 0∧env 5=i64 i∧QU B B''∧∃c d,env 6=.ptr c 0∧env 7=.ptr d 0∧B'' c=some (.cells [.str xn,i64 xk,.slice 4 xv.length (xv.flatMap Test.cells) none,i64 xr])∧B'' d=some (.cells [.str yn,i64 yk,.slice 4 yv.length (yv.flatMap Test.cells) none,i64 yr])) ?_ ?_
  ·simp only[e2,e3,e5,hp,hq,QO,hd2,i1,i2,Q1,seval]
   constructor
   ·intro c hc
    have npc:=Q6 hp hc
    have nqc:=Q6 hq hc
    simp only[Q5 npc,Q5 nqc,hp,hq,QM,Q1,seval]
    intro d hd
    obtain⟨ndc,hd⟩:=Q9 hd
    have npd:=Q6 hp hd
    have nqd:=Q6 hq hd
    have ncd:=ndc.symm
    simp only[Q5 npc,Q5 nqc,Q5 npd,Q5 nqd,Q5 ncd,Q5 ndc,Q0,hp,hq,QM,Q1,seval]
    have bc:=hO'.gone hc
    have bd:=hO'.gone hd
    exact⟨e2,e3,e5,(((hO'.set bc (by simp)).set bd (by simp)).set bc (by simp)).set bd (by simp),c,d,rfl,rfl,by rw[Q5 ncd,Q0],Q0 ..⟩
   ·intro c hc
    have npc:=Q6 hp hc
    have nqc:=Q6 hq hc
    simp only[Q5 npc,Q5 nqc,hp,hq,QM,Q1,seval]
    intro d hd
    obtain⟨ndc,hd⟩:=Q9 hd
    have npd:=Q6 hp hd
    have nqd:=Q6 hq hd
    have ncd:=ndc.symm
    simp only[Q5 npc,Q5 nqc,Q5 npd,Q5 nqd,Q5 ncd,Q5 ndc,Q0,hp,hq,QM,Q1,seval]
    have bc:=hO'.gone hc
    have bd:=hO'.gone hd
    exact⟨e2,e3,e5,((hO'.set bc (by simp)).set bd (by simp)).set bc (by simp),d,c,rfl,rfl,by rw[Q5 ndc,Q0],Q0 ..⟩
  clear e2 e3 e5 hO' hp hq QO hd2
  rintro env ds B'' ⟨rfl,e2,e3,e5,hO',c,d,e6,e7,hc,hd⟩
  simp only[e2,e3,e5,e6,e7,hc,hd,Q1,seval]
  refine⟨fun h1=>⟨fun h2=>⟨fun h3=>Q3 (i0 _) ?_,fun h=>hre (by simp [YZ,h]) _ _ rfl hO'⟩,fun h=>hre (by simp [YZ,h]) _ _ rfl hO'⟩,fun h=>hre (by simp [YZ,h]) _ _ rfl hO'⟩
  cases g0:Zn Ur xv yv with
  |false=>
   simp only[Q1,seval]
   exact hre (by simp [YZ,g0]) _ _ rfl hO'
  |true=>
   simp only[Q1,seval]
   exact hgo (by simp [YZ,g0,h1,h2,h3]) _ _ ⟨e2,e3⟩ e5 hO'
 ·rintro i hi hw env B' s ⟨e2,e3⟩ e5
  simp only[e2,e3,e5,hw,Q1,seval]
 ·rintro i hi env B' hO' e4
  simp only[e4,Q1,seval]
  exact Qc (by simp [YY,X6 g3 i hi]) (QU.trans hO hO')
 rintro hS env B' ⟨e2,e3⟩ hO'
 have g5:=X5 g3 hS
 have hO:=QU.trans hO hO'
 have hp:=hO'.keep hp
 have hq:=hO'.keep hq
 clear hS hO'
 simp only[Q1,seval]
 refine XK (v:=8) es.length (fun i=> !(ZS es[i] (es2[i.val]'(by have:=i.isLt;omega)))) (fun env=>env 2=.ptr p 0∧env 3=.ptr q 0) (.refl B') ⟨e2,e3⟩ rfl (by omega) ?_ ?_ ?_ ?_ ?_
 ·rintro i env B' s hi ⟨e2,e3⟩ e5 hO'
  have hp:=hO'.keep hp
  simp only[e2,e3,e5,hp,Q1,seval]
  exact VA hO'
 ·rintro i hi env B' s ⟨e2,e3⟩ e5 hO'
  have hp:=hO'.keep hp
  have hq:=hO'.keep hq
  have QO:=Zg (enc:=Edge.cells) (sz:=13) Edge.cells_len hi
  have hd2:=Zg (enc:=Edge.cells) (sz:=13) Edge.cells_len (xs:=es2) (i:=i) (by omega)
  have i1:(i:Int)<es.length:=by omega
  have i2:(i:Int)<es2.length:=by omega
  simp only[e2,e3,e5,hp,hq,QO,hd2,i1,i2,Edge.cells_len,Q1,seval]
  refine Q3 (k101 G es[i] es2[i] (y6 _ (cV hi))) ?_
  simp only[e2,e3,e5,hp,hq,QM,Q1,seval]
  exact⟨rfl,hO'⟩
 ·rintro i hi hw env B' s ⟨e2,e3⟩ e5
  simp only[e2,e3,e5,hw,Q1,seval]
 ·rintro i hi env B' hO' e4
  simp only[e4,Q1,seval]
  exact Qc (by simp [YY,X6 g4 i hi]) (QU.trans hO hO')
 ·rintro hi env B' _ hO'
  simp only[Q1,seval]
  exact Qc (by simp [YY,g1,g2,g5,X5 g4 hi]) (QU.trans hO hO')
theorem n11 (a b:Model){A:Q2}(h:LtM a):QB Tryz.prog G 11 [.agg a.cells,.agg b.cells] A (bo (Y4 a b)) A:=by
 obtain⟨n,cl,vs,ch,fs,ps⟩:=a
 obtain⟨n2,cl2,vs2,ch2,fs2,ps2⟩:=b
 obtain⟨y1,y2,y3,y4,y5,y6,y7,y8,y9,y10,y11,y12⟩:=h
 simp only at y1 y2 y3 y4 y5 y6 y7 y8 y9 y10 y11 y12
 refine Q4 l11 (fE rfl) ?_
 unfold C11
 refine Vp rfl rfl fun p q env B e2 e3 hp hq hO=> ?_
 simp only[Model.cells,Qr]at hp hq
 simp only[e2,e3,hp,hq,Q1,seval]
 refine⟨fun h1=>Q3 (k33 G (xs:=cl) (ys:=cl2) rfl rfl rfl rfl (by omega)) ?_,fun h1=>Qc (by simp [Y4,h1]) hO⟩
 cases g0:Zn (fun a b=>a==b) cl cl2 with
 |false=>
  simp only[e2,e3,hp,hq,Q1,seval]
  exact Qc (by simp [Y4,g0]) hO
 |true=>
 simp only[e2,e3,hp,hq,Q1,seval]
 refine⟨fun g1=>⟨fun g2=>Q3 (k34 G fs fs2 (by omega) y9) ?_,fun h=>Qc (by simp [Y4,UA (p:=UZ) (show ch.length≠ch2.length by omega)]) hO⟩,fun h=>Qc (by simp [Y4,UA (p:=W4) (show vs.length≠vs2.length by omega)]) hO⟩
 cases g3:Zn Us fs fs2 with
 |false=>
  simp only[e2,e3,hp,hq,Q1,seval]
  exact Qc (by simp [Y4,g3]) hO
 |true=>
 simp only[e2,e3,hp,hq,Q1,seval]
 refine⟨fun g4=> ?_,fun h=>Qc (by simp [Y4,UA (p:=YY) (show ps.length≠ps2.length by omega)]) hO⟩
 have g1:vs.length=vs2.length:=by omega
 have g2:ch.length=ch2.length:=by omega
 have g4:ps.length=ps2.length:=by omega
 refine XK (v:=5) vs.length (fun i=> !(W4 vs[i] (vs2[i.val]'(by have:=i.isLt;omega)))) (fun env=>env 2=.ptr p 0∧env 3=.ptr q 0) (.refl B) ⟨e2,e3⟩ rfl (by omega) ?_ ?_ ?_ ?_ ?_
 ·rintro i env B' s hi ⟨e2,e3⟩ e5 hO'
  have hp:=hO'.keep hp
  simp only[e2,e3,e5,hp,Q1,seval]
  exact VA hO'
 ·rintro i hi env B' s ⟨e2,e3⟩ e5 hO'
  have hp:=hO'.keep hp
  have hq:=hO'.keep hq
  have QO:=Zg (enc:=Var.cells) (sz:=4) (fun _=>rfl) hi
  have hd2:=Zg (enc:=Var.cells) (sz:=4) (fun _=>rfl) (xs:=vs2) (i:=i) (by omega)
  have i1:(i:Int)<vs.length:=by omega
  have i2:(i:Int)<vs2.length:=by omega
  simp only[e2,e3,e5,hp,hq,QO,hd2,i1,i2,Var.cells,Q1,seval]
  rw[show Qh .neq (.struct [.s,.i,.i,.i]) (.agg [.str vs[i].name,i64 vs[i].low,i64 vs[i].high,i64 vs[i].init]) (.agg [.str vs2[i].name,i64 vs2[i].low,i64 vs2[i].high,i64 vs2[i].init])=some (bo !(W4 vs[i] vs2[i]))from eqV]
  simp only[e2,e3,e5,hp,hq,QM,Q1,seval]
  exact⟨rfl,hO'⟩
 ·rintro i hi hw env B' s ⟨e2,e3⟩ e5
  simp only[e2,e3,e5,hw,Q1,seval]
 ·rintro i hi env B' hO' e4
  simp only[e4,Q1,seval]
  exact Qc (by simp [Y4,X6 g1 i hi]) (QU.trans hO hO')
 rintro hS env B' ⟨e2,e3⟩ hO'
 have g5:=X5 g1 hS
 have hO:=QU.trans hO hO'
 have hp:=hO'.keep hp
 have hq:=hO'.keep hq
 clear hS hO'
 simp only[Q1,seval]
 generalize B'=B at*
 refine XK (v:=6) ch.length (fun i=> !(UZ ch[i] (ch2[i.val]'(by have:=i.isLt;omega)))) (fun env=>env 2=.ptr p 0∧env 3=.ptr q 0) (.refl B) ⟨e2,e3⟩ rfl (by omega) ?_ ?_ ?_ ?_ ?_
 ·rintro i env B' s hi ⟨e2,e3⟩ e5 hO'
  have hp:=hO'.keep hp
  simp only[e2,e3,e5,hp,Q1,seval]
  exact VA hO'
 ·rintro i hi env B' s ⟨e2,e3⟩ e5 hO'
  have hp:=hO'.keep hp
  have hq:=hO'.keep hq
  have QO:=Zg (enc:=Chan.cells) (sz:=3) (fun _=>rfl) hi
  have hd2:=Zg (enc:=Chan.cells) (sz:=3) (fun _=>rfl) (xs:=ch2) (i:=i) (by omega)
  have i1:(i:Int)<ch.length:=by omega
  have i2:(i:Int)<ch2.length:=by omega
  simp only[e2,e3,e5,hp,hq,QO,hd2,i1,i2,Chan.cells,Q1,seval]
  rw[show Qh .neq (.struct [.s,.b,.b]) (.agg [.str ch[i].name,bo ch[i].broadcast,bo ch[i].urgent]) (.agg [.str ch2[i].name,bo ch2[i].broadcast,bo ch2[i].urgent])=some (bo !(UZ ch[i] ch2[i]))from Cz]
  simp only[e2,e3,e5,hp,hq,QM,Q1,seval]
  exact⟨rfl,hO'⟩
 ·rintro i hi hw env B' s ⟨e2,e3⟩ e5
  simp only[e2,e3,e5,hw,Q1,seval]
 ·rintro i hi env B' hO' e4
  simp only[e4,Q1,seval]
  exact Qc (by simp [Y4,X6 g2 i hi]) (QU.trans hO hO')
 rintro hS env B' ⟨e2,e3⟩ hO'
 have g6:=X5 g2 hS
 have hO:=QU.trans hO hO'
 have hp:=hO'.keep hp
 have hq:=hO'.keep hq
 clear hS hO'
 simp only[Q1,seval]
 generalize B'=B at*
 refine XK (v:=7) ps.length (fun i=> !(YY ps[i] (ps2[i.val]'(by have:=i.isLt;omega)))) (fun env=>env 2=.ptr p 0∧env 3=.ptr q 0) (.refl B) ⟨e2,e3⟩ rfl (by omega) ?_ ?_ ?_ ?_ ?_
 ·rintro i env B' s hi ⟨e2,e3⟩ e5 hO'
  have hp:=hO'.keep hp
  simp only[e2,e3,e5,hp,Q1,seval]
  exact VA hO'
 ·rintro i hi env B' s ⟨e2,e3⟩ e5 hO'
  have hp:=hO'.keep hp
  have hq:=hO'.keep hq
  have QO:=Zg (enc:=Proc.cells) (sz:=4) (fun _=>rfl) hi
  have hd2:=Zg (enc:=Proc.cells) (sz:=4) (fun _=>rfl) (xs:=ps2) (i:=i) (by omega)
  have i1:(i:Int)<ps.length:=by omega
  have i2:(i:Int)<ps2.length:=by omega
  simp only[e2,e3,e5,hp,hq,QO,hd2,i1,i2,Proc.cells,Q1,seval]
  refine Q3 (k35 G ps[i] ps2[i] (y12 _ (cV hi))) ?_
  simp only[e2,e3,e5,hp,hq,QM,Q1,seval]
  exact⟨rfl,hO'⟩
 ·rintro i hi hw env B' s ⟨e2,e3⟩ e5
  simp only[e2,e3,e5,hw,Q1,seval]
 ·rintro i hi env B' hO' e4
  simp only[e4,Q1,seval]
  exact Qc (by simp [Y4,X6 g4 i hi]) (QU.trans hO hO')
 ·rintro hi env B' _ hO'
  simp only[Q1,seval]
  exact Qc (by simp [Y4,h1,g0,g3,g5,g6,X5 g4 hi]) (QU.trans hO hO')
end
end Go.Proofs.YtcbjbgaefighcaaGreatDoor
