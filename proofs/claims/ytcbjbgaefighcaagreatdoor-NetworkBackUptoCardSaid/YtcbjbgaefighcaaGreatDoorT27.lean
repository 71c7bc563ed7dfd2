/- Part 27 of the proof. -/
import Derived.Test.YtcbjbgaefighcaaGreatDoorT0
import Derived.Test.YtcbjbgaefighcaaGreatDoorT13
import Derived.Test.YtcbjbgaefighcaaGreatDoorT25
import Derived.Shelf.Strings.BuilderK
set_option linter.all false
namespace Go.Proofs.YtcbjbgaefighcaaGreatDoor
open Go Go.Ax Go.Proofs
def ID (sz t:Nat)(z:List Value):LC:=
 .seq (.ops [⟨some 6,.mv (.const (.bool false)),none⟩])<|
 .seq (.seq (.ops [⟨some 10,.mv (.tmp 0),none⟩,
  ⟨some 11,.lenOf .slice (.tmp 10),none⟩,
  ⟨some 12,.mv (.tmp 1),none⟩,
  ⟨some 13,.lenOf .slice (.tmp 12),none⟩,
  ⟨some 14,.bin .neq .num (.tmp 11) (.tmp 13),none⟩])<|
 .cond (.tmp 14) (.seq (.ops [⟨some 6,.mv (.const (.bool false)),none⟩])<|
  .ret)<|
  .skip)<|
 .seq (.seq (.ops [⟨some 15,.mv (.tmp 0),none⟩,
  ⟨some 16,.lenOf .slice (.tmp 15),none⟩,
  ⟨some 17,.mv (.const (.int .i64 0)),none⟩])<|
 .block 0<|.loop<|.seq (.ops [⟨some 18,.bin .lss .num (.tmp 17) (.tmp 16),none⟩])<|
  .seq (.cond (.tmp 18) (.skip)<|
   .exit 0)<|
  .seq (.block 1<|.seq (.ops [⟨some 19,.mv (.tmp 17),none⟩,
   ⟨some 20,.idxS sz (.tmp 15) (.tmp 17),none⟩,
   ⟨some 21,.load sz true (.tmp 20),none⟩,
   ⟨some 8,.alloc t z,none⟩,
   ⟨some 7,.mv (.tmp 19),none⟩,
   ⟨none,.store sz (.tmp 8) (.tmp 21),none⟩])<|
   .seq (.ops [⟨some 22,.mv (.tmp 1),none⟩,
    ⟨some 23,.mv (.tmp 7),none⟩,
    ⟨some 24,.idxS sz (.tmp 22) (.tmp 23),none⟩,
    ⟨some 25,.load sz true (.tmp 24),none⟩,
    ⟨some 9,.alloc t z,none⟩,
    ⟨none,.store sz (.tmp 9) (.tmp 25),none⟩])<|
   .seq (.ops [⟨some 26,.mv (.tmp 2),none⟩,
    ⟨some 27,.load sz true (.tmp 8),none⟩,
    ⟨some 28,.load sz true (.tmp 9),none⟩,
    ⟨some 29,.call (.tmp 26) [.tmp 27,.tmp 28],none⟩,
    ⟨some 30,.un .not (.tmp 29),none⟩])<|
   .cond (.tmp 30) (.seq (.ops [⟨some 6,.mv (.const (.bool false)),none⟩])<|
    .ret)<|
    .skip)<|
  .ops [⟨some 31,.bin .add .num (.tmp 17) (.const (.int .i64 1)),none⟩,
   ⟨some 17,.mv (.tmp 31),none⟩])<|
 .seq (.ops [⟨some 6,.mv (.const (.bool true)),none⟩])<|
 .ret
def Zt {α:Type}(p:α→α→Bool):List α→List α→Bool
 |[],[]=>true
 |x::xs,y::ys=>p x y&&Zt p xs ys
 |_,_=>false
theorem Iq {α:Type}{p:α→α→Bool}:∀{xs ys:List α},Zt p xs ys=true→xs.length=ys.length
 |[],[],_=>rfl
 |x::xs,y::ys,h=>by simp only[Zt,cD]at h;simp [Iq h.2]
 |[],_::_,h=>by cases h
 |_::_,[],h=>by cases h
theorem LX {α:Type}{p:α→α→Bool}:∀{a b xs ys:List α},a.length=b.length→Zt p (a++xs) (b++ys)=(Zt p a b&&Zt p xs ys)
 |[],[],_,_,_=>rfl
 |x::a,y::b,xs,ys,h=>by simp only[cF,Zt,LX (a:=a) (b:=b) (by simpa using h),Bool.and_assoc]
 |[],_::_,_,_,h=>by simp at h
 |_::_,[],_,_,h=>by simp at h
theorem H7 {C:Cx}{id sz:Nat}{vs cs:List AV}{d:Option Nat}{l:List LInstr}{s:List Fr}{env:Qo}{ds:List QU}{A:Q3}(h:vs.length=sz)(h2:cs.length=sz)(h3:vs.all AV.one=true):C.st2 (some (.cells cs)) id 0 sz (.agg vs) d l s env ds A=C.ops l s (putD env d Ja) ds (A.upd id (some (.cells vs))):=by
 rw[Z6 (v:=.agg vs) h (by omega) h3]
 show C.ops l s (putD env d Ja) ds (A.upd id (some (.cells (W8 cs 0 vs))))=_
 rw[Mo (by omega)]
theorem LU {z:List Value}{sz:Nat}(h:z.length=sz):(z.map Ze).length=sz:=by rw[lG,h]
section
variable (G:Nat→Option (List AV))
theorem Oj {α:Type}{A:Q3}{f sz t:Nat}{z:List Value}(hl:Q8 Tryz.prog f=some ⟨32,false,[.tmp 6],ID sz t z⟩)(ht:(@BEq.beq Nat _ t 102)=false){xs ys:List α}{enc:α→List AV}(hsz:∀x,(enc x).length=sz)(hone:∀x,(enc x).all AV.one=true)(hz:z.length=sz){p:α→α→Bool}{fn:FuncId}{n m:Nat}{cs ds:List AV}{t1 t2:Option Nat}(hn:n=xs.length)(hcs:cs=xs.flatMap enc)(hm:m=ys.length)(hds:ds=ys.flatMap enc)(hlen:xs.length<2^62)
 (hp:∀x∈xs,∀y∈ys,∀A,Qu Tryz.prog G fn [.agg (enc x),.agg (enc y)] A (bo (p x y)) A):
 Qu Tryz.prog G f [.slice sz n cs t1,.slice sz m ds t2,.func (.func fn) [] []] A (bo (Zt p xs ys)) A:=by
 subst hn hcs hm hds
 refine Q4 hl (fE rfl) ?_
 simp only[ID,Q1,seval]
 refine⟨fun hlen2=> ?_,fun h=>Qb ?_ (.refl _)⟩
 ·refine Qv (fun k env ds B=>∃a b x y,xs=a++x∧ys=b++y∧a.length=b.length∧x.length=y.length∧k=x.length∧env 1=.slice sz ys.length (ys.flatMap enc) t2∧env 2=.func (.func fn) [] []∧env 15=.slice sz xs.length (xs.flatMap enc) t1∧env 16=i64 xs.length∧env 17=i64 a.length∧ds=[]∧Z7 A B∧Zt p xs ys=Zt p x y) xs.length
   ⟨[],[],xs,ys,rfl,rfl,rfl,by omega,rfl,rfl,rfl,rfl,rfl,rfl,rfl,.refl _,rfl⟩ ?_
  rintro k env ds B ⟨a,b,x,y,hx,hy,hab,hxy,rfl,e1,e2,e15,e16,e17,rfl,hO,hE⟩
  have hl2:(a.length:Int)+x.length=xs.length:=by rw[hx];simp
  rw[hE]
  match x,y,hxy with
  |[],[],_=>
   have hlt:¬((a.length:Int)<xs.length):=by simp at hl2;omega
   simp only[ht,e1,e2,e15,e16,e17,Q1,seval]
   exact⟨fun h=>absurd h hlt,fun _=>Qb rfl hO⟩
  |u::x,v::y,hxy=>
   have hlt:((a.length:Int)<xs.length):=by simp at hl2;omega
   have hlt2:((a.length:Int)<ys.length):=by omega
   have e3:IntKind.i64.wrap ((a.length:Int)+1)=((a++[u]).length:Nat):=by rw[Qg (by omega) (by omega)];simp
   have Zf:(xs.flatMap enc).drop (a.length*sz)=enc u++x.flatMap enc:=by rw[hx,Zg hsz];simp
   have hd2:(ys.flatMap enc).drop (a.length*sz)=enc v++y.flatMap enc:=by rw[hy,hab,Zg hsz];simp
   simp only[ht,e1,e2,e15,e16,e17,Q1,seval]
   refine⟨fun _=>⟨hlt,?_⟩,fun h=>absurd hlt h⟩
   rw[Zf,dM (hsz u)]
   refine⟨by simp [hsz],?_⟩
   intro c hc
   rw[H7 (hsz u) (LU hz) (hone u)]
   simp only[ht,e1,e2,e15,e16,e17,Q1,seval]
   refine⟨hlt2,?_⟩
   rw[hd2,dM (hsz v)]
   refine⟨by simp [hsz],?_⟩
   intro d hd
   obtain⟨hdc,hd⟩:=Q9 hd
   rw[H7 (hsz v) (LU hz) (hone v)]
   have t1':(enc u).take sz=enc u:=dX (by rw[hsz];exact fG _)
   have t2':(enc v).take sz=enc v:=dX (by rw[hsz];exact fG _)
   simp only[ht,e1,e2,e15,e16,e17,Q5 hdc.symm,hsz,t1',t2',Q1,seval]
   refine Q2 (hp u (by rw[hx];simp) v (by rw[hy];simp) _) ?_
   have hO':Z7 A ((B.upd c (some (.cells (enc u)))).upd d (some (.cells (enc v)))):=(hO.set (hO.gone hc) (by simp)).set (hO.gone hd) (by simp)
   simp only[Zt]
   cases p u v with
   |false=>
    simp only[ht,e1,e2,e15,e16,e17,Q1,seval]
    exact Qb rfl hO'
   |true=>
    simp only[ht,e1,e2,e15,e16,e17,e3,dC,Q1,seval]
    exact⟨x.length,by simp,a++[u],b++[v],x,y,by simp [hx],by simp [hy],by simp [hab],by simpa using hxy,rfl,rfl,hO',rfl⟩
 ·cases h2:Zt p xs ys with
  |false=>rfl
  |true=>exact absurd (congrArg Int.ofNat (Iq h2)) h
end
def HY (sz:Nat)(ag:Bool)(k:BK):LC:=
 .seq (.ops [⟨some 4,.mv (.const (.bool false)),none⟩])<|
 .seq (.seq (.ops [⟨some 6,.mv (.tmp 0),none⟩,
  ⟨some 7,.lenOf .slice (.tmp 6),none⟩,
  ⟨some 8,.mv (.tmp 1),none⟩,
  ⟨some 9,.lenOf .slice (.tmp 8),none⟩,
  ⟨some 10,.bin .neq .num (.tmp 7) (.tmp 9),none⟩])<|
 .cond (.tmp 10) (.seq (.ops [⟨some 4,.mv (.const (.bool false)),none⟩])<|
  .ret)<|
  .skip)<|
 .seq (.seq (.ops [⟨some 11,.mv (.tmp 0),none⟩,
  ⟨some 12,.lenOf .slice (.tmp 11),none⟩,
  ⟨some 13,.mv (.const (.int .i64 0)),none⟩])<|
 .block 0<|.loop<|.seq (.ops [⟨some 14,.bin .lss .num (.tmp 13) (.tmp 12),none⟩])<|
  .seq (.cond (.tmp 14) (.skip)<|
   .exit 0)<|
  .seq (.block 1<|.seq (.ops [⟨some 15,.mv (.tmp 13),none⟩,
   ⟨some 5,.mv (.tmp 15),none⟩])<|
   .seq (.draw (
.val 0 false ⟨some 16,.mv (.tmp 0),none⟩<|
.val 1 false ⟨some 17,.mv (.tmp 5),none⟩<|
.val 2 false ⟨some 18,.idxS sz (.tmp 16) (.tmp 17),none⟩<|
.val 3 true ⟨some 19,.load sz ag (.tmp 18),none⟩<|
.val 4 false ⟨some 20,.mv (.tmp 1),none⟩<|
.val 5 false ⟨some 21,.mv (.tmp 5),none⟩<|
.val 6 false ⟨some 22,.idxS sz (.tmp 20) (.tmp 21),none⟩<|
.val 7 true ⟨some 23,.load sz ag (.tmp 22),none⟩<|
.val 8 false ⟨some 24,.bin .neq k (.tmp 19) (.tmp 23),none⟩<|
.done))<|
 .cond (.tmp 24) (.seq (.ops [⟨some 4,.mv (.const (.bool false)),none⟩])<|
  .ret)<|
  .skip)<|
 .ops [⟨some 25,.bin .add .num (.tmp 13) (.const (.int .i64 1)),none⟩,
  ⟨some 13,.mv (.tmp 25),none⟩])<|
 .seq (.ops [⟨some 4,.mv (.const (.bool true)),none⟩])<|
 .ret
section
variable (G:Nat→Option (List AV))
theorem PZ {α:Type}{A:Q3}{f sz:Nat}{k:BK}(hl:Q8 Tryz.prog f=some ⟨26,false,[.tmp 4],HY sz true k⟩){xs ys:List α}{enc:α→List AV}(hsz:∀x,(enc x).length=sz){p:α→α→Bool}{n m:Nat}{cs ds:List AV}{t1 t2:Option Nat}(hn:n=xs.length)(hcs:cs=xs.flatMap enc)(hm:m=ys.length)(hds:ds=ys.flatMap enc)(hlen:xs.length<2^62)
 (hp:∀x y,Qf .neq k (.agg (enc x)) (.agg (enc y))=some (bo !(p x y))):
 Qu Tryz.prog G f [.slice sz n cs t1,.slice sz m ds t2] A (bo (Zt p xs ys)) A:=by
 subst hn hcs hm hds
 refine Q4 hl (fE rfl) ?_
 simp only[HY,Q1,seval]
 refine⟨fun hlen2=> ?_,fun h=>Qb ?_ (.refl _)⟩
 ·refine Qv (fun k env ds B=>∃a b x y,xs=a++x∧ys=b++y∧a.length=b.length∧x.length=y.length∧k=x.length∧env 0=.slice sz xs.length (xs.flatMap enc) t1∧env 1=.slice sz ys.length (ys.flatMap enc) t2∧env 12=i64 xs.length∧env 13=i64 a.length∧ds=[]∧B=A∧Zt p xs ys=Zt p x y) xs.length
   ⟨[],[],xs,ys,rfl,rfl,rfl,by omega,rfl,rfl,rfl,rfl,rfl,rfl,rfl,rfl⟩ ?_
  rintro k env ds B ⟨a,b,x,y,hx,hy,hab,hxy,rfl,e0,e1,e12,e13,rfl,rfl,hE⟩
  have hl2:(a.length:Int)+x.length=xs.length:=by rw[hx];simp
  rw[hE]
  match x,y,hxy with
  |[],[],_=>
   have hlt:¬((a.length:Int)<xs.length):=by simp at hl2;omega
   simp only[e0,e1,e12,e13,Q1,seval]
   exact⟨fun h=>absurd h hlt,fun _=>Qb rfl (.refl _)⟩
  |u::x,v::y,hxy=>
   have hlt:((a.length:Int)<xs.length):=by simp at hl2;omega
   have hlt2:((a.length:Int)<ys.length):=by omega
   have e3:IntKind.i64.wrap ((a.length:Int)+1)=((a++[u]).length:Nat):=by rw[Qg (by omega) (by omega)];simp
   have Zf:(xs.flatMap enc).drop (a.length*sz)=enc u++x.flatMap enc:=by rw[hx,Zg hsz];simp
   have hd2:(ys.flatMap enc).drop (a.length*sz)=enc v++y.flatMap enc:=by rw[hy,hab,Zg hsz];simp
   have h01:(0:Int)≤a.length∧(a.length:Int)<xs.length:=⟨by omega,hlt⟩
   have h02:(0:Int)≤a.length∧(a.length:Int)<ys.length:=⟨by omega,hlt2⟩
   simp only[e0,e1,e12,e13,Q1,seval]
   refine⟨fun _=>⟨hlt,?_⟩,fun h=>absurd hlt h⟩
   simp only[e0,e1,e12,e13,Zf,hd2,hsz,Q1,seval]
   refine⟨hlt2,?_⟩
   rw[hp u v]
   simp only[Zt]
   cases p u v with
   |false=>
    simp only[e0,e1,e12,e13,QW,Q1,seval]
    exact Qb rfl (.refl _)
   |true=>
    simp only[e0,e1,e12,e13,e3,QW,Q1,seval]
    exact⟨x.length,by simp,a++[u],b++[v],x,y,by simp [hx],by simp [hy],by simp [hab],by simpa using hxy,rfl,rfl,rfl⟩
 ·cases h2:Zt p xs ys with
  |false=>rfl
  |true=>exact absurd (congrArg Int.ofNat (Iq h2)) h
theorem CO {A:Q3}{f:Nat}(hl:Q8 Tryz.prog f=some ⟨26,false,[.tmp 4],HY 1 false .num⟩){xs ys:List Bs}{n m:Nat}{cs ds:List AV}{t1 t2:Option Nat}(hn:n=xs.length)(hcs:cs=xs.flatMap Zl)(hm:m=ys.length)(hds:ds=ys.flatMap Zl)(hlen:xs.length<2^62):
 Qu Tryz.prog G f [.slice 1 n cs t1,.slice 1 m ds t2] A (bo (Zt (fun a b=>a==b) xs ys)) A:=by
 subst hn hcs hm hds
 refine Q4 hl (fE rfl) ?_
 simp only[HY,Q1,seval]
 refine⟨fun hlen2=> ?_,fun h=>Qb ?_ (.refl _)⟩
 ·refine Qv (fun k env ds B=>∃a b x y,xs=a++x∧ys=b++y∧a.length=b.length∧x.length=y.length∧k=x.length∧env 0=.slice 1 xs.length (xs.flatMap Zl) t1∧env 1=.slice 1 ys.length (ys.flatMap Zl) t2∧env 12=i64 xs.length∧env 13=i64 a.length∧ds=[]∧B=A∧Zt (fun a b=>a==b) xs ys=Zt (fun a b=>a==b) x y) xs.length
   ⟨[],[],xs,ys,rfl,rfl,rfl,by omega,rfl,rfl,rfl,rfl,rfl,rfl,rfl,rfl⟩ ?_
  rintro k env ds B ⟨a,b,x,y,hx,hy,hab,hxy,rfl,e0,e1,e12,e13,rfl,rfl,hE⟩
  have hl2:(a.length:Int)+x.length=xs.length:=by rw[hx];simp
  rw[hE]
  match x,y,hxy with
  |[],[],_=>
   have hlt:¬((a.length:Int)<xs.length):=by simp at hl2;omega
   simp only[e0,e1,e12,e13,Q1,seval]
   exact⟨fun h=>absurd h hlt,fun _=>Qb rfl (.refl _)⟩
  |u::x,v::y,hxy=>
   have hlt:((a.length:Int)<xs.length):=by simp at hl2;omega
   have hlt2:((a.length:Int)<ys.length):=by omega
   have e3:IntKind.i64.wrap ((a.length:Int)+1)=((a++[u]).length:Nat):=by rw[Qg (by omega) (by omega)];simp
   have Zf:(xs.flatMap Zl).drop a.length=.str u::x.flatMap Zl:=by rw[←Nat.mul_one a.length,hx,Zg (sz:=1) (fun _=>rfl)];simp [Zl]
   have hd2:(ys.flatMap Zl).drop a.length=.str v::y.flatMap Zl:=by rw[←Nat.mul_one a.length,hy,hab,Zg (sz:=1) (fun _=>rfl)];simp [Zl]
   have h01:(0:Int)≤a.length∧(a.length:Int)<xs.length:=⟨by omega,hlt⟩
   have h02:(0:Int)≤a.length∧(a.length:Int)<ys.length:=⟨by omega,hlt2⟩
   simp only[e0,e1,e12,e13,Q1,seval]
   refine⟨fun _=>⟨hlt,?_⟩,fun h=>absurd hlt h⟩
   simp only[e0,e1,e12,e13,Zf,hd2,Nat.mul_one,Q1,seval]
   refine⟨hlt2,?_⟩
   rw[show Qf .neq .num (.str u) (.str v)=some (bo !(u==v))from rfl]
   simp only[Zt]
   cases u==v with
   |false=>
    simp only[e0,e1,e12,e13,QW,Q1,seval]
    exact Qb rfl (.refl _)
   |true=>
    simp only[e0,e1,e12,e13,e3,QW,Q1,seval]
    exact⟨x.length,by simp,a++[u],b++[v],x,y,by simp [hx],by simp [hy],by simp [hab],by simpa using hxy,rfl,rfl,rfl⟩
 ·cases h2:Zt (fun a b=>a==b) xs ys with
  |false=>rfl
  |true=>exact absurd (congrArg Int.ofNat (Iq h2)) h
end
open Go.RowKit Go.Shelf
theorem Gq {P:Program}{e:TypeId}(hc:P.cellsOf e=1)(count o n:Nat)(hn:o+n≤count):liesAt P P.depth e count o e n=true:=by
 have hd:P.depth=(2*(P.types.size+Made.depth)+1)+1:=rfl
 rw[hd]
 simp only[liesAt,lA]
 left
 rw[hd]
 simp [rowAt,hc,hn,sameLayout,Nat.mod_one]
theorem Oa {P:Program}(w:World)(pt it ty e:TypeId)(hp:P.underlying pt=some (.pointer e))(hc:P.cellsOf e=1)(g o cells:Nat)(hsh:w.shape? g=some (e,cells))(l:List UInt8)(h0:l≠[])(hn:o+l.length≤cells)(h63:l.length≤9223372036854775807)
 (hcell:∀j x,l[j]? =some x→w.cell? ((⟨g,o,none⟩:Addr).add j)=some (.int .u8 x.toNat)):
 (Builtin.unsafeString_ #[pt,it] ty #[.pointer (some ⟨g,o,none⟩),.int .i64 l.length]).run P w=.ok (.string ⟨l.toArray⟩) (w.freeze ⟨g,o,none⟩ l.length):=by
 have hl:l.length≠0:=by simpa using h0
 have hlb:=Lib.run_loadBytes (P:=P) w l ⟨g,o,none⟩ .empty hcell
 have hlies:=Gq (P:=P) hc (cells / P.cellsOf e) o l.length (by rw[hc];simpa using hn)
 have h63':¬(9223372036854775807:Int)<(l.length:Int):=by omega
 obtain⟨X,Y,Z,hdef⟩:∃(X Y:Sem PUnit) (Z:Sem Value),Builtin.unsafeString_ #[pt,it] ty #[.pointer (some ⟨g,o,none⟩),.int .i64 l.length]=
  (do
   let n←asInt (.int .i64 l.length)
   if n<0 then X
   if n>IntKind.i64.max then Y
   if n=0 then pure (.string .empty)
   else if←variablesAt ⟨g,o,none⟩ (←elemOf pt) n.toNat then do
    let s←loadBytes ⟨g,o,none⟩ .empty n.toNat
    freeze ⟨g,o,none⟩ n.toNat
    pure (.string s)
   else Z):=⟨_,_,_,rfl⟩
 rw[hdef]
 have hmax:IntKind.i64.max=9223372036854775807:=rfl
 have hneg:¬(l.length:Int)<0:=by omega
 simp [asInt,asIntOf,hmax,h63',hneg,hl,variablesAt,hsh,elemOf,run_underlying hp,hlies,hlb]
section
variable {P:Program}{ρ:Ren}
set_option maxHeartbeats 1000000 in
set_option maxRecDepth 100000 in
theorem LZ (L:Lays.n169 P ρ)(X:Builder.Extra P ρ)(b g o n cap:Nat)(p:Value)(l:List UInt8)(w:World)(h0:l≠[])(hnl:n=l.length)(hcap:n≤cap)(h63:n≤9223372036854775807)(hbk:w.heap[b]? =some (.cells #[p,.slice (some ⟨g,o,none⟩) n cap] (ρ.t 72) (0,0)))
 {cur:Array Value}{fz:Nat×Nat}(hg:w.heap[g]? =some (.cells cur (ρ.t 5) fz))(hsz:o+n≤cur.size)(hcell:∀j x,l[j]? =some x→w.cell? ((⟨g,o,none⟩:Addr).add j)=some (.int .u8 x.toNat)):
 Calls P (ρ.f 169) #[.pointer (some ⟨b,0,none⟩)] w fun e w'=>e=.returned (.string ⟨l.toArray⟩)∧w'=w.drew.freeze ⟨g,o,none⟩ l.length:=by
 subst hnl
 have hl0:l.length≠0:=by simpa using h0
 have c1:w.drew.cell? ⟨b,1,none⟩=some (.slice (some ⟨g,o,none⟩) l.length cap):=by
  have:w.drew.heap[b]? =some (.cells #[p,.slice (some ⟨g,o,none⟩) l.length cap] (ρ.t 72) (0,0)):=hbk
  rw[Lib.cell_of_heap this];rfl
 have hSD:(Builtin.unsafeSliceData_ #[(ρ.t 37)] (ρ.t 127) #[.slice (some ⟨g,o,none⟩) l.length cap]).run P w.drew=.ok (.pointer (some ⟨g,o,none⟩)) w.drew:=
  Lib.run_unsafeSliceData_row _ _ _ _ _ _ (by omega)
 have hUS:(Builtin.unsafeString_ #[(ρ.t 127),(ρ.t 3)] (ρ.t 9) #[.pointer (some ⟨g,o,none⟩),.int .i64 l.length]).run P w.drew=.ok (.string ⟨l.toArray⟩) (w.drew.freeze ⟨g,o,none⟩ l.length):=
  Oa w.drew (ρ.t 127) (ρ.t 3) (ρ.t 9) (ρ.t 5) L.t127 X.cellsByte g o cur.size (by have hg':w.drew.heap[g]? =some (.cells cur (ρ.t 5) fz):=hg;simp [World.shape?,hg']) l h0 hsz h63 hcell
 have mixed:=L.mixed
 have t72:=L.t72;have a72:=L.a72;have z72:=L.z72;have v72:=L.v72;have u72:=run_underlying L.t72
 have t70:=L.t70;have a70:=L.a70;have z70:=L.z70;have v70:=L.v70;have u70:=run_underlying L.t70
 have t37:=L.t37;have a37:=L.a37;have z37:=L.z37;have v37:=L.v37;have u37:=run_underlying L.t37
 have t127:=L.t127;have a127:=L.a127;have z127:=L.z127;have v127:=L.v127;have u127:=run_underlying L.t127
 have t3:=L.t3;have a3:=L.a3;have z3:=L.z3;have v3:=L.v3;have u3:=run_underlying L.t3
 have t9:=L.t9;have a9:=L.a9;have z9:=L.z9;have v9:=L.v9;have u9:=run_underlying L.t9
 have t5:=X.t5;have a5:=X.a5;have z5:=X.z5;have v5:=X.v5;have u5:=run_underlying X.t5
 go_enter L.f169,Body.n169_ntmps ρ
 go_wp2
 go_region_o
 all_goals (go_wp2;go_ret;exact⟨rfl,rfl⟩)
set_option maxHeartbeats 1000000 in
set_option maxRecDepth 100000 in
theorem OZ (L:Lays.n169 P ρ)(X:Builder.Extra P ρ)(b:Nat)(p:Value)(w:World)(hbk:w.heap[b]? =some (.cells #[p,.slice none 0 0] (ρ.t 72) (0,0))):
 Calls P (ρ.f 169) #[.pointer (some ⟨b,0,none⟩)] w fun e w'=>e=.returned (.string ⟨#[]⟩)∧w'=w.drew:=by
 have hUS:=Any.unsafeString_none L X
 have c1:w.drew.cell? ⟨b,1,none⟩=some (.slice none 0 0):=by
  have:w.drew.heap[b]? =some (.cells #[p,.slice none 0 0] (ρ.t 72) (0,0)):=hbk
  rw[Lib.cell_of_heap this];rfl
 have hSD:(Builtin.unsafeSliceData_ #[(ρ.t 37)] (ρ.t 127) #[.slice none 0 0]).run P w.drew=.ok (.pointer none) w.drew:=rfl
 have mixed:=L.mixed
 have t72:=L.t72;have a72:=L.a72;have z72:=L.z72;have v72:=L.v72;have u72:=run_underlying L.t72
 have t70:=L.t70;have a70:=L.a70;have z70:=L.z70;have v70:=L.v70;have u70:=run_underlying L.t70
 have t37:=L.t37;have a37:=L.a37;have z37:=L.z37;have v37:=L.v37;have u37:=run_underlying L.t37
 have t127:=L.t127;have a127:=L.a127;have z127:=L.z127;have v127:=L.v127;have u127:=run_underlying L.t127
 have t3:=L.t3;have a3:=L.a3;have z3:=L.z3;have v3:=L.v3;have u3:=run_underlying L.t3
 have t9:=L.t9;have a9:=L.a9;have z9:=L.z9;have v9:=L.v9;have u9:=run_underlying L.t9
 have t5:=X.t5;have a5:=X.a5;have z5:=X.z5;have v5:=X.v5;have u5:=run_underlying X.t5
 go_enter L.f169,Body.n169_ntmps ρ
 go_wp2
 go_region_o
 all_goals (go_wp2;go_ret;exact⟨rfl,rfl⟩)
end
def Nk:Ren:=⟨fun x=>match x with|240=>105|276=>180|n=>n,fun x=>match x with|70=>99|72=>102|37=>100|164=>204|n=>n,fun n=>n⟩
theorem Sz:Lays.n240 Tryz.prog Nk:={
 mixed:=Tryz.lays169.mixed
 f240:=by kernel_rfl
 f276:=by kernel_rfl
 t0:=Tryz.underlying0
 a0:=Tryz.isAgg0
 z0:=Tryz.sizeOf0
 v0:=Tryz.zeroValue0
 t4:=Tryz.underlying4
 a4:=Tryz.isAgg4
 z4:=Tryz.sizeOf4
 v4:=Tryz.zeroValue4
 t9:=Tryz.underlying9
 a9:=Tryz.isAgg9
 z9:=Tryz.sizeOf9
 v9:=Tryz.zeroValue9
 t20:=Tryz.underlying20
 a20:=Tryz.isAgg20
 z20:=Tryz.sizeOf20
 v20:=Tryz.zeroValue20
 t70:=Tryz.underlying99
 a70:=Tryz.isAgg99
 z70:=Tryz.sizeOf99
 v70:=Tryz.zeroValue99
 t72:=Tryz.underlying102
 a72:=Tryz.isAgg102
 z72:=Tryz.sizeOf102
 v72:=Tryz.zeroValue102
 t164:=Tryz.underlying204
 a164:=Tryz.isAgg204
 z164:=Tryz.sizeOf204
 v164:=Tryz.zeroValue204}
theorem Sc:Builder.X72 Tryz.prog Nk:={
 sizeBuilder:=by kernel_rfl
 liesBuilder:=by kernel_rfl}
section
variable (G:Nat→Option (List AV))
theorem OP {κ:Kn}{A:Q3}{w:World}(hr:Rel G κ A w){b blk e E:Nat}{p v:AV}(hb:A b=some (.cells [p,v]))(ho:b % 2=1)(hs:κ.s b=some (blk,e,E)):
 ∃x y,w.heap[blk]? =some (.cells #[x,y] 102 (0,0))∧Qc κ p x∧Qc κ v y∧e=0:=by
 obtain⟨b',e',E',k1,k2⟩:=hr.obj b _ hb
 rw[hs]at k1;simp only[cA,cW]at k1;obtain⟨rfl,rfl,rfl⟩:=k1
 obtain⟨he,⟨a,el,h2,h3⟩,_⟩:=k2
 subst he
 obtain⟨a2,fr2,h6⟩:=hr.typ b _ blk _ _ hb hs ho
 rw[h2]at h6;simp only[cA,Obj.cells.injEq]at h6
 obtain⟨x,y,rfl,hx,hy⟩:=Xi h3
 exact⟨x,y,by rw[h2,h6.2.1],hx,hy,rfl⟩
theorem B8 {A:Q3}{b:Nat}{p v:AV}(hb:A b=some (.cells [p,v]))(ho:b % 2=1)(hp:p=.raw (.pointer none)∨p=.ptr b 0):Qu Tryz.prog G 105 [.ptr b 0] A ZK (A.upd b (some (.cells [.ptr b 0,v]))):=by
 refine⟨by kernel_rfl,fun κ w hr vs hvs=> ?_⟩
 obtain⟨x,rfl,hx⟩:=OK hvs
 simp only[Qc]at hx
 obtain⟨blk,e,E,hs,rfl⟩:=hx
 obtain⟨x,y,h2,hx,hy,rfl⟩:=OP G hr hb ho hs
 have c0:w.cell? ⟨blk,0,none⟩=some x:=by simp [World.cell?,h2]
 rcases hp with rfl|rfl
 ·rw[Y0 hx]at c0
  refine(Any.Builder_copyCheck_fresh Sz Sc blk w c0 (by simp [World.shape?,h2];rfl) (by simp [World.frozen?,h2])).mono ?_
  rintro e w' ⟨rfl,rfl⟩
  obtain⟨r1,s1⟩:=hr.store (i:=0) (c:=.ptr b 0) (u:=.pointer (some ⟨blk,0,none⟩)) hb hs (LP hs)
  exact⟨κ,_,.ret ZK,r1,s1,⟨_,rfl,by simp [Qc,Qi]⟩,rfl,rfl⟩
 ·simp only[Qc]at hx
  obtain⟨blk',e',E',hs',rfl⟩:=hx
  rw[hs]at hs';simp only[cA,cW]at hs';obtain⟨rfl,_,_⟩:=hs'
  refine(Any.Builder_copyCheck_used Sz Sc blk w c0).mono ?_
  rintro e w' ⟨rfl,rfl⟩
  rw[show A.upd b (some (.cells [.ptr b 0,v]))=A by rw[←hb,YP rfl]]
  exact⟨κ,_,.ret ZK,hr,Step.refl _ _ _,⟨_,rfl,by simp [Qc,Qi]⟩,rfl,rfl⟩
theorem Ms {κ:Kn}{A:Q3}{w:World}(hr:Rel G κ A w){g:Nat}:∀(l:Bs) (o:Nat),Zx κ g (l.map fun c=>.raw (Yz c)) o→∀j x,l[j]? =some x→w.cell? ⟨g,o+j,none⟩=some (.int .u8 x.toNat)
 |[],_,_,_,_,h=>by simp at h
 |c::l,o,h,j,x,hx=>by
  simp only[cJ,Zx]at h
  obtain⟨⟨y,h1,h2⟩,h3⟩:=h
  cases j with
  |zero=>
   simp only[lL,cA]at hx;subst hx
   rw[Y0 h2]at h1
   exact hr.imm _ _ _ h1
  |succ j=>
   have:=Ms hr l (o+1) h3 j x (by simpa using hx)
   rw[show o+(j+1)=o+1+j from by omega];exact this
theorem f49n {A:Q3}{b:Nat}{p:AV}(hb:A b=some (.cells [p,.raw (.slice none 0 0)]))(ho:b % 2=1):Qu Tryz.prog G 49 [.ptr b 0] A (.str []) A:=by
 refine⟨by kernel_rfl,fun κ w hr vs hvs=> ?_⟩
 obtain⟨x,rfl,hx⟩:=OK hvs
 simp only[Qc]at hx
 obtain⟨blk,e,E,hs,rfl⟩:=hx
 obtain⟨x,y,h2,hx,hy,rfl⟩:=OP G hr hb ho hs
 rw[Y0 hy]at h2
 refine(OZ Tryz.lays169 Tryz.Builder_Extra_169 blk x w h2).mono ?_
 rintro e w' ⟨rfl,rfl⟩
 exact⟨κ,A,.ret (.str []),Rel.heap (w:=w) rfl hr,Step.heap (w:=w) (w':=w.drew) rfl rfl rfl rfl,⟨_,rfl,by simp [Qc]⟩,rfl,rfl⟩
theorem f49 {A:Q3}{b t:Nat}{p:AV}{l:Bs}(hb:A b=some (.cells [p,.slice 1 l.length (l.map fun c=>.raw (Yz c)) (some t)]))(ho:b % 2=1)(ht:A t=some .tip)(hto:t % 2=1)(h0:l≠[])(hl:l.length<2^62):Qu Tryz.prog G 49 [.ptr b 0] A (.str l) A:=by
 refine⟨by kernel_rfl,fun κ w hr vs hvs=> ?_⟩
 obtain⟨x,rfl,hx⟩:=OK hvs
 simp only[Qc]at hx
 obtain⟨blk,e,E,hs,rfl⟩:=hx
 obtain⟨x,y,h2,hx,hy,rfl⟩:=OP G hr hb ho hs
 simp only[Qc]at hy
 rcases hy with⟨h,_⟩|⟨g,o,cap,rfl,hcap,hlen,hc,htp⟩
 ·cases h
 have hst:=htp t rfl
 obtain⟨g',e',E',k1,k2⟩:=hr.obj t _ ht
 rw[hst]at k1;simp only[cA,cW]at k1;obtain⟨rfl,rfl,rfl⟩:=k1
 obtain⟨⟨a,el,fr,h3,h4,h5⟩,h6⟩:=k2
 obtain⟨a2,fr2,h7⟩:=hr.tyq t g _ _ ht hst hto
 rw[h3]at h7;simp only[cA,Obj.cells.injEq]at h7
 obtain⟨_,rfl,_⟩:=h7
 have hcell:=Ms G hr l o hc
 refine(LZ Tryz.lays169 Tryz.Builder_Extra_169 blk g o l.length cap x l w h0 rfl hcap (by omega) h2 (cur:=a) (fz:=fr) h3 (by omega) (fun j x hj=>by rw[Vd];exact hcell j x hj)).mono ?_
 rintro e w' ⟨rfl,rfl⟩
 have hl0:l.length≠0:=by simpa using h0
 obtain⟨lo,hi⟩:=fr
 have hheap:(w.drew.freeze ⟨g,o,none⟩ l.length).heap[g]? =some (.cells a Wv (if lo==hi then(o,o+l.length)else(min lo o,max hi (o+l.length)))):=by
  simp only[World.freeze,hl0,if_false]
  have:w.drew.heap[g]? =some (.cells a Wv (lo,hi)):=h3
  simp [Array.getElem?_modify,this]
 have hkeep:∀k,k≠g→(w.drew.freeze ⟨g,o,none⟩ l.length).heap[k]? =w.heap[k]? :=fun k hk=>by
  simp only[World.freeze,hl0,if_false,Array.getElem?_modify]
  rw[fD (fun e=>hk e.symm)]
  rfl
 have hsize:(w.drew.freeze ⟨g,o,none⟩ l.length).heap.size=w.heap.size:=by
  simp only[World.freeze,hl0,if_false,Array.size_modify];rfl
 have r1:Rel G κ (A.upd t (some .tip)) (w.drew.freeze ⟨g,o,none⟩ l.length):=by
  refine hr.turn (o':=.tip) ht hst (fun k _ hn=>hkeep k (by simpa[Z5]using hn)) (fun k i v hf hv=> ?_) ⟨⟨a,Wv,_,hheap,h4,?_⟩,h6⟩ (fun k hf=>.inl (by simpa[Z5]using hf)) (by simp) (hty':=fun _ _=>⟨a,_,hheap⟩)
  ·simp only[Z5]at hf;subst hf
   have:=hr.imm k i v hv
   simp only[World.cell?,h3]at this
   simp only[World.cell?,hheap]
   exact this
  ·simp only at h5
   split <;> simp only <;> omega
 have s1:Step κ A w κ (A.upd t (some .tip)) (w.drew.freeze ⟨g,o,none⟩ l.length):=by
  refine Step.turn hr ht hst (by rw[hsize];exact fG _) (fun k _ hn=>hkeep k (by simpa[Z5]using hn)) (fun k hf=>.inl (by simpa[Z5]using hf)) ?_ ?_ ?_
  all_goals simp only[World.freeze,hl0,if_false];rfl
 rw[YP ht]at r1 s1
 exact⟨κ,A,.ret (.str l),r1,s1,⟨_,rfl,by simp [Qc]⟩,rfl,rfl⟩
end
end Go.Proofs.YtcbjbgaefighcaaGreatDoor
